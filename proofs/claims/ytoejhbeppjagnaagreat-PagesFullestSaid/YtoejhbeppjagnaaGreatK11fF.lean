/- What the row's text of this claim stands on, part 6: the symbolic executor, contracts of the program's functions, plain facts. No condition. -/
import Derived.WalkKit
import Derived.ProofKit
import Derived.OpenShut
import Derived.Carry
import Derived.Deep.Slices
import Derived.JoinedOf
import Derived.Test.YtoejhbeppjagnaaGreatK11fE
section
namespace Go.Rx
open Go.Proofs
theorem LayOK.words11 {L : ya} (h : LayOK L) : 128 ≤ L.at_11 ∧ L.at_11 ≤ 40000 := by
  have hb := h.big; have h11 := h.a11; have hp := h.pages
  omega
theorem addr4 {L : ya} {w x : List Int} {a p i : Int} {m : Nat} (t : Got L w 4 a x p i m) : a = L.at_10 + p * 32 + i * 16 := t.addr
theorem lives11_eq : y02 = some true := by
  unfold y02
  obtain ⟨d, hS, hR⟩ := Small_eq (yb.mk 0 0 0 0 0 0 0 0 0 0 0)
  rw [hS, Option.bind_some, Of_eq]
  have hR' : RightC (yb.mk d.Workers d.CPUs 2 d.Stripes d.Tries d.Wait d.Clock d.Private d.Cache d.Bin d.Batch) :=
    ⟨hR.workers, hR.cpus, by simp only; omega, hR.stripes, hR.tries, hR.wait, hR.clock, hR.private_, hR.cache, hR.bin, hR.batch⟩
  rw [if_pos hR', Option.bind_some, Words_eq, Option.bind_some]
  have hL := layC_ok hR'
  have hP : (layC (yb.mk d.Workers d.CPUs 2 d.Stripes d.Tries d.Wait d.Clock d.Private d.Cache d.Bin d.Batch)).c.Pages = 2 := rfl
  simp only
  generalize layC (yb.mk d.Workers d.CPUs 2 d.Stripes d.Tries d.Wait d.Clock d.Private d.Cache d.Bin d.Batch) = L at *
  have hw := hL.words11
  have g := hL.geo11
  have gk := hL.geoK
  have v0 := rep_VOK hL
  have i0 := Inv11.start hL
  have hlen : (List.replicate L.at_11.toNat (0 : Int)).length = L.at_11.toNat := by simp
  rw [decide_eq_true (by omega), cond_true, Nat.ble_eq_true_of_le (by rw [hlen]; omega), cond_true]
  have hz : ∀ (b : Int), wd (List.replicate L.at_11.toNat 0) b = 0 := fun b => by
    simp [wd, List.getD, List.getElem?_replicate]; split <;> rfl
  generalize List.replicate L.at_11.toNat (0 : Int) = w at *
  have hn : L.at_11 ≤ (w.length : Int) := by omega
  have s4 : slotsC 4 = 2 := rfl
  have z4 : sizeC 4 = 16 := rfl
  obtain ⟨a1, b1, u1, e1, g1⟩ := pGrab_eq v0 i0 4
  obtain ⟨l1, inn1, ls1, i1⟩ := g1.inv hL hn i0
  have f1 : b1 = true ∧ a1 = L.at_10 := by
    cases g1 with
    | no h =>
      rcases h with h | ⟨_, h⟩
      · omega
      · exact (h 0 (by omega) (by omega) (hz _)).elim
    | @old p m j hc hp hf _ _ _ =>
      rcases first_cls i0 hc hf with ⟨e, _⟩ | ⟨_, ⟨m', f⟩, _⟩
      · omega
      · have := f.kind
        have : kw L w p = 0 := hz _
        omega
    | @new p u hc hf hr hp ht =>
      have ep : p = 0 := by
        refine hr.uniq ?_
        unfold FindR
        rw [if_pos (by omega)]
        have hk0 : ∀ q, 0 ≤ q → q < 2 → knd L.at_1 L.c.Pages w q = 0 := fun q a b => by rw [knd_in (by omega), hz]
        refine .inr ⟨.inl ⟨rfl, fun q q0 q1 dd => ?_⟩, fit_hit ⟨by decide, by omega, fun j j0 j1 => hk0 j j0 (by omega)⟩ (fun q q0 q1 => by omega)⟩
        have := (dd.all q (by omega) (by omega)).2
        unfold mpd isB at this
        have z : w.getD (L.at_0 + q / 4).toNat 0 = 0 := hz _
        rw [z] at this
        cases hh : thereB L.c.Pages (q / 4) <;> rw [hh] at this <;> cases this
      subst ep
      exact ⟨rfl, by omega⟩
  obtain ⟨rfl, ea1⟩ := f1
  obtain ⟨p1, j1, m1, t1⟩ := got_of hL hn i0 g1
  have hp1 := t1.page; have hj1 := t1.num; have ha1 := addr4 t1
  rw [s4] at hj1
  have ep1 : p1 = 0 := by omega
  have ej1 : j1 = 0 := by omega
  subst ep1; subst ej1
  have em1 : m1 = 0 := by
    rcases t1.was with ⟨h, _⟩ | ⟨_, _, _, h⟩
    · have : kw L w 0 = 0 := hz _
      omega
    · exact h
  subst em1
  have v1 : VOK L w.length u1 := ⟨hL, by rw [l1], v0.all⟩
  have k1 : kw L u1 0 = 5 := t1.kind
  have b1 : bw L u1 0 = ((1 : Nat) : Int) := t1.bits
  have c1 : cw L u1 0 = 1 := t1.left
  obtain ⟨ok1, oc1, ob1⟩ := t1.other 1 (by omega) (by omega) (by omega)
  have zk : kw L w 1 = 0 := hz _
  have zc : cw L w 1 = 0 := hz _
  obtain ⟨a2, b2, u2, e2, g2⟩ := pGrab_eq v1 i1 4
  obtain ⟨l2, inn2, ls2, i2⟩ := g2.inv hL (by rw [l1]; exact hn) i1
  have no1 : ¬ firstF ls1 4 1 (slotsC 4).toNat = -1 := fun h => by
    rcases first_cls i1 (by omega) h with ⟨_, h⟩ | ⟨h, _⟩
    · have := h 0 (by omega) (by omega) k1
      omega
    · omega
  have f2 : b2 = true ∧ a2 = L.at_10 + 16 := by
    cases g2 with
    | no h =>
      rcases h with h | ⟨h, _⟩
      · omega
      · exact (no1 h).elim
    | @old p m i hc hp hf hb hi h0 =>
      rcases first_cls i1 hc hf with ⟨e, _⟩ | ⟨hp, ⟨m', f⟩, _⟩
      · omega
      · have hk := f.kind
        have ep : p = 0 := by
          have h : p = 0 ∨ p = 1 := by omega
          rcases h with h | h
          · exact h
          · subst h; omega
        subst ep
        have em : m = 1 := by omega
        subst em
        have ei : i = 1 := hi.uniq (.inr ⟨by omega, by rw [s4]; decide, by decide, fun k hk => by
          have : k = 0 := by omega
          subst this; decide⟩)
        subst ei
        exact ⟨rfl, by omega⟩
    | new hc hf _ _ _ => exact (no1 hf).elim
  obtain ⟨rfl, ea2⟩ := f2
  obtain ⟨p2, j2, m2, t2⟩ := got_of hL (by rw [l1]; exact hn) i1 g2
  have hp2 := t2.page; have hj2 := t2.num; have ha2 := addr4 t2
  rw [s4] at hj2
  have ep2 : p2 = 0 := by omega
  have ej2 : j2 = 1 := by omega
  subst ep2; subst ej2
  have em2 : m2 = 1 := by
    rcases t2.was with ⟨_, h, _⟩ | ⟨h, _⟩
    · omega
    · omega
  subst em2
  have v2 : VOK L w.length u2 := ⟨hL, by rw [l2, l1], v0.all⟩
  have k2 : kw L u2 0 = 5 := t2.kind
  have b2 : bw L u2 0 = ((3 : Nat) : Int) := t2.bits
  have c2 : cw L u2 0 = 0 := t2.left
  obtain ⟨ok2, oc2, ob2⟩ := t2.other 1 (by omega) (by omega) (by omega)
  obtain ⟨a3, b3, u3, e3, g3⟩ := pGrab_eq v2 i2 4
  obtain ⟨l3, inn3, ls3, i3⟩ := g3.inv hL (by rw [l2, l1]; exact hn) i2
  have f3 : b3 = true ∧ a3 = L.at_10 + 32 := by
    cases g3 with
    | no h =>
      rcases h with h | ⟨_, h⟩
      · omega
      · exact (h 1 (by omega) (by omega) (by omega)).elim
    | @old p m i hc hp hf hb hi h0 =>
      rcases first_cls i2 hc hf with ⟨e, _⟩ | ⟨hp, ⟨m', f⟩, h1, _⟩
      · omega
      · have hk := f.kind
        have h : p = 0 ∨ p = 1 := by omega
        rcases h with h | h <;> subst h <;> omega
    | @new p u hc hf hr hp ht =>
      rcases find_free hr with ⟨h, _⟩ | ⟨hp', hk⟩
      · omega
      · have h : p = 0 ∨ p = 1 := by omega
        rcases h with h | h
        · subst h; omega
        · subst h; exact ⟨rfl, by omega⟩
  obtain ⟨rfl, ea3⟩ := f3
  obtain ⟨p3, j3, m3, t3⟩ := got_of hL (by rw [l2, l1]; exact hn) i2 g3
  have hp3 := t3.page; have hj3 := t3.num; have ha3 := addr4 t3
  rw [s4] at hj3
  have ep3 : p3 = 1 := by omega
  have ej3 : j3 = 0 := by omega
  subst ep3; subst ej3
  have em3 : m3 = 0 := by
    rcases t3.was with ⟨h, _⟩ | ⟨_, _, _, h⟩
    · omega
    · exact h
  subst em3
  have v3 : VOK L w.length u3 := ⟨hL, by rw [l3, l2, l1], v0.all⟩
  have k3 : kw L u3 1 = 5 := t3.kind
  have b3 : bw L u3 1 = ((1 : Nat) : Int) := t3.bits
  obtain ⟨ok3, oc3, ob3⟩ := t3.other 0 (by omega) (by omega) (by omega)
  have hfree : freeN L u3 4 L.c.Pages.toNat = 1 := by
    rw [hP]
    show freeN L u3 4 2 = 1
    simp only [freeN]
    rw [if_pos ⟨by omega, show kw L u3 ((0 : Nat) : Int) = 4 + 1 by have : kw L u3 ((0 : Nat) : Int) = kw L u3 0 := rfl; omega⟩, if_pos ⟨by omega, show kw L u3 ((1 : Nat) : Int) = 4 + 1 from k3⟩]
    have h0 : bw L u3 ((0 : Nat) : Int) = ((3 : Nat) : Int) := by have : bw L u3 ((0 : Nat) : Int) = bw L u3 0 := rfl; omega
    have h1 : bw L u3 ((1 : Nat) : Int) = ((1 : Nat) : Int) := b3
    rw [h0, h1, s4]
    decide
  have hrun : y1x w.length w L 0 0 0 0 = some (u3, a1, a2, a3, 1) := by
    unfold y1x
    have r0 : y3j w.length L 0 w 0 0 0 0 = some (.inl (1, u1, a1, 0, 0, 0)) := by
      simp only [y3j]
      rw [e1]; rfl
    have r1 : y3j w.length L 1 u1 a1 0 0 0 = some (.inl (2, u2, a1, a2, 0, 0)) := by
      simp only [y3j]
      rw [e2]; rfl
    have r2 : y3j w.length L 2 u2 a1 a2 0 0 = some (.inl (3, u3, a1, a2, a3, 0)) := by
      simp only [y3j]
      rw [e3]; rfl
    have r3 : y3j w.length L 3 u3 a1 a2 a3 0 = some (.inr (u3, a1, a2, a3, 1)) := by
      simp only [y3j]
      rw [pFree_eq v3 i3, hfree]; rfl
    exact (loopO_go r0).trans ((loopO_go r1).trans ((loopO_go r2).trans (loopO_end r3)))
  rw [hrun, Option.bind_some]
  simp only [beq_self_eq_true, cond_true, User_eq, Option.bind_some]
  rw [wrap_id (x := a1 + 16) (by omega) (by omega), wrap_id (x := a1 + 32) (by omega) (by omega), beq_iff_eq.2 ea1, beq_iff_eq.2 (show a2 = a1 + 16 by omega), beq_iff_eq.2 (show a3 = a1 + 32 by omega)]
  rfl
theorem after11_eq (c : yb) {acts : List (List Int)} (hl : acts.length ≤ 1000) : ∃ L w b, y0s c acts = some (L, w, b, true) ∧ VOK L w.length w ∧ w.length ≤ 40000 ∧ ∃ inn ls, Inv11 L w inn ls := by
  unfold y0s
  obtain ⟨d, hR, hB⟩ := Begin_eq c
  have hL := layC_ok hR
  have hw := hL.words11
  have hlen : (List.replicate (layC d).at_11.toNat (0 : Int)).length = (layC d).at_11.toNat := by simp
  rw [hB, Option.bind_some]
  simp only
  rw [Nat.ble_eq_true_of_le (by rw [hlen]; omega), cond_true]
  obtain ⟨u, b, h1, h2, h3⟩ := after111_eq hR (rep_VOK hL) (Inv11.start hL) hl
  rw [h1, Option.bind_some]
  have hl2 := h2.len
  simp only
  rw [hl2, beq_self_eq_true]
  refine ⟨_, _, _, rfl, ?_, by rw [hl2, hlen]; omega, h3⟩
  rw [← hl2] at h2; exact h2
structure Least11 (L : ya) (w : List Int) (q : Int) (p : Int) (least : Int) (open_ : Bool) : Prop where
  free : open_ = true ↔ ∃ k, 0 ≤ k ∧ k < p ∧ kw L w k = 0
  least : (least = 0 ∧ ∀ k, 0 ≤ k → k < p → (0 ≤ q ∧ q < 5) → kw L w k = q + 1 → cw L w k = 0) ∨
    (0 < least ∧ (0 ≤ q ∧ q < 5) ∧ (∃ k, 0 ≤ k ∧ k < p ∧ kw L w k = q + 1 ∧ cw L w k = least) ∧ ∀ k, 0 ≤ k → k < p → kw L w k = q + 1 → cw L w k = 0 ∨ least ≤ cw L w k)
noncomputable def stepF (L : ya) (w : List Int) (q p least y1 : Int) (o : Bool) : Option ((Int × Bool × Int) ⊕ Bool) :=
  ((yl q).bind fun y2 => (bif (Decidable.decide (y2 > 0)) then (bif (List.getD w (Int.toNat (offs y1 0)) 0 == IntKind.wrap IntKind.i64 (q + 1)) then ((yh q).bind fun y3 => ((yn L p).bind fun y4 => (bif (inR y4 (List.length w)) then (bif (inR (offs y4 0) (List.length w)) then ((yh q).bind fun y5 => ((yu (List.getD w (Int.toNat (offs y4 0)) 0) y5).bind fun y6 => (bif (Decidable.decide (IntKind.wrap IntKind.i64 (y3 - y6) > 0)) then (bif (least == 0) then some (.inl ((IntKind.wrap IntKind.i64 (y3 - y6)), o, (IntKind.wrap IntKind.i64 (p + 1)))) else (bif (Decidable.decide (IntKind.wrap IntKind.i64 (y3 - y6) < least)) then some (.inl ((IntKind.wrap IntKind.i64 (y3 - y6)), o, (IntKind.wrap IntKind.i64 (p + 1)))) else some (.inl ((least), o, (IntKind.wrap IntKind.i64 (p + 1)))))) else some (.inl ((least), o, (IntKind.wrap IntKind.i64 (p + 1))))))) else none) else none))) else some (.inl ((least), o, (IntKind.wrap IntKind.i64 (p + 1))))) else some (.inl ((least), o, (IntKind.wrap IntKind.i64 (p + 1))))))
section
variable {L : ya} {w inn : List Int} {ls : Int → Int → List Int}
theorem stepF_eq (v : VOK L w.length w) (i : Inv11 L w inn ls) {q p least : Int} {open_ : Bool} (hp : 0 ≤ p ∧ p < L.c.Pages) (l : Least11 L w q p least open_) :
    ∃ least', (∀ o, stepF L w q p least (L.at_1 + p) o = some (.inl (least', o, p + 1))) ∧ Least11 L w q (p + 1) least' (open_ || kw L w p == 0) := by
  have g := v.lay.geo11; have hpg := v.lay.pages
  have fr : (open_ || kw L w p == 0) = true ↔ ∃ k, 0 ≤ k ∧ k < p + 1 ∧ kw L w k = 0 := by
    rw [Bool.or_eq_true, l.free, beq_iff_eq]
    constructor
    · rintro (⟨k, a, b, c⟩ | h)
      · exact ⟨k, a, by omega, c⟩
      · exact ⟨p, hp.1, by omega, h⟩
    · rintro ⟨k, a, b, c⟩
      by_cases e : k = p
      · subst e; exact .inr c
      · exact .inl ⟨k, a, by omega, c⟩
  have o1 : offs (L.at_1 + p) 0 = L.at_1 + p := offs_nn (by omega)
  have hk : w.getD (L.at_1 + p).toNat 0 = kw L w p := rfl
  have w1 : IntKind.wrap .i64 (p + 1) = p + 1 := wrap_id (by omega) (by omega)
  have stay : ((0 ≤ q ∧ q < 5) → kw L w p = q + 1 → cw L w p = 0 ∨ (least ≠ 0 ∧ least ≤ cw L w p)) → Least11 L w q (p + 1) least (open_ || kw L w p == 0) := by
    clear hk
    intro h
    refine ⟨fr, ?_⟩
    rcases l.least with ⟨a, b⟩ | ⟨a, b, ⟨k, c1, c2, c3, c4⟩, d⟩
    · refine .inl ⟨a, fun k k0 k1 hq hk => ?_⟩
      by_cases e : k = p
      · subst e
        rcases h hq hk with z | ⟨z, _⟩
        · exact z
        · exact (z a).elim
      · exact b k k0 (by omega) hq hk
    · refine .inr ⟨a, b, ⟨k, c1, by omega, c3, c4⟩, fun k k0 k1 hk => ?_⟩
      by_cases e : k = p
      · subst e
        rcases h b hk with z | ⟨_, z⟩
        · exact .inl z
        · exact .inr z
      · exact d k k0 (by omega) hk
  unfold stepF
  by_cases hq : 0 ≤ q ∧ q < 5
  · obtain ⟨z1, z2, z3⟩ := sizeC_in hq
    obtain ⟨s1, s2, s3⟩ := slots_pow hq
    have hsz : yl q = some (sizeC q) := Size_eq q
    simp only [hsz, Option.bind_some, decide_eq_true (show sizeC q > 0 by omega), cond_true, o1, hk, wrap_id (x := q + 1) (by omega) (by omega), w1]
    by_cases e : kw L w p = q + 1
    · rcases i.pg p hp.1 hp.2 with f | ⟨c', m, f⟩
      · have := f.kind; omega
      · have e1 : c' = q := by have := f.kind; omega
        subst e1
        have hpop := popN_le m (slotsC c').toNat
        have hlf := f.left
        obtain ⟨_, _, r3⟩ := page_at v hp
        have o3 : offs (L.at_3 + p) 0 = L.at_3 + p := offs_nn (by omega)
        have hb : w.getD (L.at_3 + p).toNat 0 = (m : Int) := f.bits
        have hcnt : yu (m : Int) (slotsC c') = some (popN m (slotsC c').toNat : Int) := by
          have := Count_is (bits_lt f.lt s1) s1
          rw [s3] at this
          exact this
        simp only [beq_iff_eq.2 e, cond_true, Slots_eq, Option.bind_some, Bits_eq v.lay, lPg_in hp, r3, o3, hb, hcnt, wrap_id (x := slotsC c' - (popN m (slotsC c').toNat : Int)) (by omega) (by omega)]
        rw [← hlf]
        by_cases n0 : cw L w p > 0
        · rw [decide_eq_true n0]
          have take : Least11 L w c' (p + 1) least (open_ || kw L w p == 0) ∨ Least11 L w c' (p + 1) (cw L w p) (open_ || kw L w p == 0) := by
            by_cases z : least ≠ 0 ∧ least ≤ cw L w p
            · exact .inl (stay (fun _ _ => .inr z))
            · refine .inr ⟨fr, .inr ⟨n0, hq, ⟨p, hp.1, by omega, e, rfl⟩, fun k k0 k1 hk => ?_⟩⟩
              by_cases ek : k = p
              · subst ek; exact .inr (by omega)
              · rcases l.least with ⟨a, b⟩ | ⟨a, b, _, d⟩
                · exact .inl (b k k0 (by omega) hq hk)
                · rcases d k k0 (by omega) hk with d | d
                  · exact .inl d
                  · exact .inr (by omega)
          by_cases z : least = 0
          · rw [beq_iff_eq.2 z]
            refine ⟨cw L w p, fun o => rfl, ?_⟩
            rcases take with t | t
            · rcases t.least with ⟨_, b⟩ | ⟨a, _⟩
              · have := b p hp.1 (by omega) hq e; omega
              · omega
            · exact t
          · rw [beq_eq_false_iff_ne.2 z]
            by_cases lt : cw L w p < least
            · rw [decide_eq_true lt]
              refine ⟨cw L w p, fun o => rfl, ?_⟩
              rcases take with t | t
              · rcases t.least with ⟨a, _⟩ | ⟨_, _, _, d⟩
                · exact (z a).elim
                · rcases d p hp.1 (by omega) e with d | d <;> omega
              · exact t
            · rw [decide_eq_false lt]
              exact ⟨least, fun o => rfl, stay (fun _ _ => .inr ⟨z, by omega⟩)⟩
        · rw [decide_eq_false n0]
          exact ⟨least, fun o => rfl, stay (fun _ _ => .inl (by omega))⟩
    · simp only [beq_eq_false_iff_ne.2 e, cond_false]
      exact ⟨least, fun o => rfl, stay (fun _ h => (e h).elim)⟩
  · have hsz : yl q = some 0 := by rw [← sizeC_no hq]; exact Size_eq q
    simp only [hsz, Option.bind_some, decide_eq_false (show ¬ (0 : Int) > 0 by omega), cond_false, w1]
    exact ⟨least, fun o => rfl, stay (fun h => (hq h).elim)⟩
theorem full1_eq (v : VOK L w.length w) (i : Inv11 L w inn ls) (q : Int) (b1 b2 : Bool) (z : Int) :
    ∃ a got u, y0n w.length w L q b1 z b2 = some (u, decide (0 ≤ firstF ls q 1 (slotsC q).toNat), a, got) ∧ GrabS L ls w q a got u := by
  obtain ⟨a, got, u, e1, s⟩ := pGrab_eq v i q
  unfold y0n
  rw [pRoom_eq v i, Option.bind_some, e1]
  exact ⟨_, _, _, rfl, s⟩
theorem fullest_end (v : VOK L w.length w) (hwl : w.length ≤ 40000) (i : Inv11 L w inn ls) {q least : Int} {open_ : Bool} (l : Least11 L w q L.c.Pages least open_) :
    y3u q L w least open_ L.c.Pages = some (.inr true) := by
  have g := v.lay.geo11; have hpg := v.lay.pages
  have ec : (cOf L).Pages = L.c.Pages := rfl
  obtain ⟨a, got, u, e1, s⟩ := full1_eq v i q false false 0
  simp only [y3u, Config_eq, Option.bind_some, ec, decide_eq_false (Int.lt_irrefl L.c.Pages), cond_false, Nat.ble_eq_true_of_le (show w.length ≤ 1048576 by omega), cond_true, e1, lives11_eq]
  have plc : ∀ p j, 0 ≤ p ∧ p < L.c.Pages → 0 ≤ j ∧ j < 32 → y06 L (L.at_10 + p * 32 + j) = some (p, j, true) := fun p j hp hj => by
    rw [Place_eq v.lay]
    unfold lPlace
    rw [if_pos (by omega), show (L.at_10 + p * 32 + j - L.at_10) / 32 = p by omega, show (L.at_10 + p * 32 + j - L.at_10) % 32 = j by omega]
  by_cases hq : 0 ≤ q ∧ q < 5
  rotate_left
  · have hsz : yl q = some 0 := by rw [← sizeC_no hq]; exact Size_eq q
    have hl : least = 0 := by
      rcases l.least with ⟨h, _⟩ | ⟨_, h, _⟩
      · exact h
      · exact (hq h).elim
    have hr : decide (0 ≤ firstF ls q 1 (slotsC q).toNat) = false := by rw [slotsC_no hq]; rfl
    cases s with
    | no _ =>
      simp only [hsz, Option.bind_some, hr, hl]
      rfl
    | old h _ _ _ _ _ => exact (hq h).elim
    | new h _ _ _ _ => exact (hq h).elim
  obtain ⟨z1, z2, z3⟩ := sizeC_in hq
  obtain ⟨s1, s2, s3⟩ := slots_pow hq
  have hsz : yl q = some (sizeC q) := Size_eq q
  rw [hsz, Option.bind_some, decide_eq_true (show sizeC q > 0 by omega), cond_true]
  rcases l.least with ⟨l0, l1⟩ | ⟨l0, _, ⟨k, k0, k1, k2, k3⟩, l1⟩
  · subst l0
    rw [decide_eq_false (show ¬ (0 : Int) > 0 by omega), cond_false]
    have hf : firstF ls q 1 (slotsC q).toNat = -1 := by
      rcases first_cls i hq rfl with ⟨h, _⟩ | ⟨hp, ⟨m, f⟩, h1, _⟩
      · exact h
      · have := l1 _ hp.1 hp.2 hq f.kind; omega
    rw [hf]
    have hr : decide (0 ≤ (-1 : Int)) = false := rfl
    rw [hr]
    cases s with
    | no h =>
      have ho : open_ = false := by
        cases ho : open_ with
        | false => rfl
        | true =>
          obtain ⟨k, k0, k1, k2⟩ := l.free.1 ho
          rcases h with h | ⟨_, h⟩
          · exact (h hq).elim
          · exact (h k k0 k1 k2).elim
      rw [ho]; rfl
    | old _ h0 h1 _ _ _ => omega
    | @new p u hc hf' hr' hp ht =>
      rcases find_free hr' with ⟨h, _⟩ | ⟨hp, hk⟩
      · omega
      · have ho : open_ = true := l.free.2 ⟨p, hp.1, hp.2, hk⟩
        obtain ⟨r1, _, _⟩ := page_at v hp
        have o1 : offs (L.at_1 + p) 0 = L.at_1 + p := offs_nn (by omega)
        have hkw : w.getD (L.at_1 + p).toNat 0 = 0 := hk
        have hpl := plc p 0 hp (by omega)
        rw [Int.add_zero] at hpl
        rw [ho]
        simp only [hpl, Option.bind_some, Kind_eq v.lay, lPg_in hp, r1, o1, hkw, beq_self_eq_true, Bool.not_true, cond_true, cond_false]
  · rw [decide_eq_true (show least > 0 from l0), cond_true]
    rcases first_cls i hq rfl with ⟨_, h⟩ | ⟨hp, ⟨m, f⟩, h1, _, h2⟩
    · have := h k k0 k1 k2; omega
    · have hr : decide (0 ≤ firstF ls q 1 (slotsC q).toNat) = true := decide_eq_true hp.1
      rw [hr]
      cases s with
      | no h =>
        rcases h with h | ⟨h, _⟩
        · exact (h hq).elim
        · omega
      | new _ h _ _ _ => omega
      | @old p m' j _ _ hf hb hj j0 =>
        rw [hf] at hp f h1 h2
        have em : m' = m := by have := f.bits; omega
        subst em
        have hlf := f.left
        have hmin : cw L w p = least := by
          have e1 := h2 k k0 k1 k2
          have e2 := l1 p hp.1 hp.2 f.kind
          omega
        obtain ⟨_, j1, j2⟩ := isFirst_ge hj (by omega)
        obtain ⟨r1, _, r3⟩ := page_at v hp
        have o1 : offs (L.at_1 + p) 0 = L.at_1 + p := offs_nn (by omega)
        have o3 : offs (L.at_3 + p) 0 = L.at_3 + p := offs_nn (by omega)
        have hkw : w.getD (L.at_1 + p).toNat 0 = q + 1 := f.kind
        have hbw : w.getD (L.at_3 + p).toNat 0 = (m' : Int) := f.bits
        have hms := mul_size hq (i := j) ⟨j0, by omega⟩
        have hpl := plc p (j * sizeC q) hp (by omega)
        have hcnt : yu (m' : Int) (slotsC q) = some (popN m' (slotsC q).toNat : Int) := by
          have := Count_is (bits_lt f.lt s1) s1
          rw [s3] at this
          exact this
        have hne : (!sizeC q == 0) = true := by rw [beq_eq_false_iff_ne.2 (show sizeC q ≠ 0 by omega)]; rfl
        have hdv : IntKind.wrap IntKind.i64 (Int.tdiv (j * sizeC q) (sizeC q)) = j := by
          rw [Int.tdiv_eq_ediv_of_nonneg (by omega), Int.mul_ediv_cancel _ (by omega), wrap_id (by omega) (by omega)]
        have hhas : y05 (m' : Int) j = some false := by
          rw [Has_eq (bits_lt f.lt s1)]
          unfold bitI
          rw [j2]; simp
        have hl0 : (least == 0) = false := beq_eq_false_iff_ne.2 (by omega)
        have e2 : slotsC q - (popN m' (slotsC q).toNat : Int) = least := by omega
        simp only [hpl, Option.bind_some, Kind_eq v.lay, Bits_eq v.lay, lPg_in hp, r1, r3, o1, o3, hkw, hbw, Slots_eq, hcnt, hne, hdv, hhas, hl0, beq_self_eq_true, Bool.not_true, Bool.not_false, cond_true, cond_false, wrap_id (x := q + 1) (by omega) (by omega), e2, wrap_id (x := least) (by omega) (by omega)]
end
theorem PagesFullest_main (c : yb) (q : Int) (acts : List (List Int)) : y4p c q acts = some true := by
  unfold y4p
  by_cases hl : (acts.length : Int) > 60
  · rw [decide_eq_true hl, cond_true, lives11_eq]; rfl
  rw [decide_eq_false hl, cond_false]
  obtain ⟨L, w, b, h1, v, hwl, inn, ls, i⟩ := after11_eq c (acts := acts) (by omega)
  have g := v.lay.geo11; have ha := v.all; have hpg := v.lay.pages
  rw [h1, Option.bind_some]
  simp only [Bool.not_true, cond_false]
  obtain ⟨r, h2, rfl⟩ := loopO_ind (step := fun s : Int × Bool × Int => y3u q L w s.1 s.2.1 s.2.2)
    (I := fun s => (0 ≤ s.2.2 ∧ s.2.2 ≤ L.c.Pages) ∧ Least11 L w q s.2.2 s.1 s.2.1) (μ := fun s => (L.c.Pages - s.2.2).toNat) (fun r => r = true) (by
      rintro ⟨least, o, p⟩ ⟨⟨p0, p1⟩, l⟩
      simp only at p0 p1 l ⊢
      by_cases cc : p < L.c.Pages
      · obtain ⟨least', n1, n2⟩ := stepF_eq v i ⟨p0, cc⟩ l
        have ec : (cOf L).Pages = L.c.Pages := rfl
        obtain ⟨r1, _, _⟩ := page_at v ⟨p0, cc⟩
        have o1 : offs (L.at_1 + p) 0 = L.at_1 + p := offs_nn (by omega)
        have es : y3u q L w least o p = some (.inl (least', (o || kw L w p == 0), p + 1)) := by
          simp only [y3u, Config_eq, Option.bind_some, ec, decide_eq_true cc, cond_true, Kind_eq v.lay, lPg_in ⟨p0, cc⟩, r1, o1]
          cases o with
          | true => rw [cond_true]; exact (by have := n1 true; unfold stepF at this; rw [o1] at this; exact this)
          | false => rw [cond_false]; exact (by have := n1 (kw L w p == 0); unfold stepF at this; rw [o1] at this; exact this)
        exact .inl ⟨_, es, ⟨⟨by simp only; omega, by simp only; omega⟩, n2⟩, by simp only; omega⟩
      · have e : p = L.c.Pages := by omega
        subst e
        exact .inr ⟨_, fullest_end v hwl i l, rfl⟩) (0, false, 0) ⟨⟨by simp only; omega, by simp only; omega⟩, ⟨⟨fun h => (by cases h), fun h => (by obtain ⟨k, a, b, _⟩ := h; simp only at b; omega)⟩, .inl ⟨rfl, fun k a b => by simp only at b; omega⟩⟩⟩
  exact h2
end Go.Rx
end

section
namespace Go.Rx
open Go.ChangeShapes Go.WideShapes Go.ChangeAt Go.RowKit
inductive AK where
  | row (tg : Nat)
  | el (tg : Nat)
def elWf (tg : Nat) (e : El tg) : Prop := ∀ k n, Value.int k n ∈ elEnc tg e → (Lit.int k n).wf = true
def elV : (tg : Nat) → El tg → V
  | 0, (n : Int) => vi n
  | 1, (b : Bool) => vb b
  | t, e => .agg ((elEnc t e).map .ext)
def ArgsOf : List AK → Nat → List V → Heap → Prop
  | [], _, ags, H => ags = [] ∧ H = []
  | .row tg :: ks, n, ags, H => ∃ (l : List (El tg)) (ags' : List V) (H' : Heap), ags = .row n :: ags' ∧ H = .row tg l true :: H' ∧ (∀ e ∈ l, elWf tg e) ∧ l.length ≤ maxLen ∧ ArgsOf ks (n + 1) ags' H'
  | .el tg :: ks, n, ags, H => ∃ (e : El tg) (ags' : List V), ags = elV tg e :: ags' ∧ elWf tg e ∧ ArgsOf ks n ags' H
def lawS (ks : List AK) : Spec where
  tr := fun args H K => ArgsOf ks 0 args H ∧ ∀ H', K (vb true) H'
section
variable {P : Program} {elT : ET}
structure ElOK (P : Program) (elT : ET) (tg : Nat) : Prop where
  cells : P.cellsOf (elT tg) = elM tg
  reads : ∀ {H : Type} (enc : TypeId × Value → H) (W : World) (base : Nat) (sp : Nat → Bool) (held : Bool) (fuel : Nat) (cs : List Value) (x : DataW H × List MemPlace),
    DataW.trod enc P W base sp held fuel (elT tg) cs = some x → ∃ e : El tg, cs = elEnc tg e ∧ elWf tg e
  value : ∀ (W : World) (r : Reach) (b : Nat) (v : Value) (e : El tg), Value.okWide P W r b (elT tg) v → v.cells.toList = elEnc tg e → ∀ ρ, (elV tg e).den ρ = some v
variable {H : Type} {enc : TypeId × Value → H} {W : World} {sp : Nat → Bool} {held : Bool}
theorem open_row {tg : Nat} (ok : ElOK P elT tg) {t : TypeId} (ht : P.underlying t = some (.slice (elT tg))) {r : Reach} {b0 : Nat} {v : Value} {d : DataW H} {ps : List MemPlace}
    (hval : Value.okWide P W r b0 t v) (hd : DataW.Trod enc P W 0 sp held t v d ps) :
    ∃ (l : List (El tg)) (F : List Nat), (∀ n ∈ F, n < W.heap.size) ∧ (∀ e ∈ l, elWf tg e) ∧ l.length ≤ maxLen ∧ (∃ a cap, v = .slice a l.length cap) ∧ ∀ ρ, (Blk.row tg l true).holds elT ρ W v F := by
  obtain ⟨a, len, cap, rfl⟩ := okWide_slice ht hval
  obtain ⟨fuel, hf⟩ := hd
  rcases Deep.open_slice ht hf with ⟨h, _⟩ | ⟨ad, len', cap', m, n, D, Pl, h, _, hl, hm, hmm, _, hx⟩
  · simp [Value.cells] at h
    obtain ⟨rfl, rfl, rfl⟩ := h
    exact ⟨[], [], by simp, by simp, Nat.zero_le _, ⟨none, 0, rfl⟩, fun ρ => ⟨none, 0, rfl, Nat.le_refl _, Nat.zero_le _, fun _ => rfl, fun j x hj => by simp [flat] at hj⟩⟩
  · simp [Value.cells] at h
    obtain ⟨rfl, rfl, rfl⟩ := h
    have hlm : len ≤ m := by rw [hmm]; split <;> omega
    have key : ∀ i, i < len → ∃ e : El tg, W.cells? 0 (ad.add (i * elM tg)) (elM tg) = some (elEnc tg e) ∧ elWf tg e := by
      intro i hi
      obtain ⟨cs', h1, h2⟩ := hx i (by omega)
      rw [ok.cells] at h1
      obtain ⟨e, he, hw⟩ := ok.reads enc W 0 sp held n cs' _ h2
      exact ⟨e, by rw [h1, he], hw⟩
    haveI : Inhabited (El tg) := ⟨elD tg⟩
    obtain ⟨E, hE⟩ := Deep.choose_lt key
    refine ⟨(List.range len).map E, if ad.block < W.heap.size then [ad.block] else [], ?_, ?_, by simp; omega, ⟨some ad, cap, by simp⟩, fun ρ => ⟨some ad, cap, by simp, by simpa using hl, hm, (fun h => by cases h), fun j x hj => ?_⟩⟩
    · intro n hn
      split at hn
      · rename_i hb; simp at hn; omega
      · simp at hn
    · intro e he
      obtain ⟨i, hi, rfl⟩ := List.mem_map.1 he
      exact (hE i (by simpa using hi)).2
    · have hjl : j < len * elM tg := by
        have := (List.getElem?_eq_some_iff.1 hj).1
        rw [flat_len] at this; simpa using this
      have hM : 0 < elM tg := by
        rcases Nat.eq_zero_or_pos (elM tg) with h | h
        · rw [h] at hjl; simp at hjl
        · exact h
      have hk : j / elM tg < len := (Nat.div_lt_iff_lt_mul hM).2 hjl
      have hr : j % elM tg < elM tg := Nat.mod_lt _ hM
      have hje : j = j / elM tg * elM tg + j % elM tg := by rw [Nat.mul_comm]; exact (Nat.div_add_mod _ _).symm
      rw [hje, flat_get tg _ _ (by simpa using hk) _ hr] at hj
      have hg : ((List.range len).map E).getD (j / elM tg) (elD tg) = E (j / elM tg) := by simp [List.getD, hk]
      rw [hg] at hj
      obtain ⟨_, _, hc⟩ := World.cells?_some (hE _ hk).1
      have := hc _ hr
      rw [hj, Deep.add_add, ← hje] at this
      refine ⟨ad, rfl, ?_, this⟩
      have hb : (ad.add j).block = ad.block := block_add ad j
      have hlt : ad.block < W.heap.size := by
        rcases Nat.lt_or_ge ad.block W.heap.size with h | h
        · exact h
        · rw [← hb] at h
          simp [World.cell?, Array.getElem?_eq_none h] at this
      simp [hlt]
def AKOK (P : Program) (elT : ET) : AK → TypeId → Prop
  | .row tg, t => P.underlying t = some (.slice (elT tg)) ∧ ElOK P elT tg
  | .el tg, t => t = elT tg ∧ ElOK P elT tg
def AKsOK (P : Program) (elT : ET) : List AK → List TypeId → Prop
  | [], [] => True
  | k :: ks, t :: ts => AKOK P elT k t ∧ AKsOK P elT ks ts
  | _, _ => False
theorem open_args : ∀ (ks : List AK) (ts : List TypeId) (vs : List Value) (ds : List (DataW H)) (ps : List MemPlace) (r : Reach) (b0 : Nat), AKsOK P elT ks ts →
    (∀ (j : Nat) t v, ts[j]? = some t → vs[j]? = some v → Value.okWide P W r b0 t v) → DataW.TrodAll enc P W 0 sp held ts vs ds ps → ∀ (ρ : List Value) (F : Nat → List Nat) (H0 : Heap), Sat elT ρ F H0 W → (∀ b ∈ H0, b.writable = false) →
    ∃ (ags : List V) (H1 : Heap) (ρ' : List Value) (F' : Nat → List Nat), ArgsOf ks ρ.length ags H1 ∧ denL ρ' ags = some vs ∧ Sat elT ρ' F' (H0 ++ H1) W ∧ (∀ b ∈ H0 ++ H1, b.writable = false) ∧ Le ρ ρ'
  | [], ts, vs, ds, ps, r, b0, hk, _, hd, ρ, F, H0, hs, hw => by
    cases ts with
    | cons t ts => exact hk.elim
    | nil =>
      obtain ⟨rfl, rfl, rfl⟩ := trodAll_nil hd
      exact ⟨[], [], ρ, F, ⟨rfl, rfl⟩, rfl, by simpa using hs, by simpa using hw, Le.refl ρ⟩
  | k :: ks, ts, vs, ds, ps, r, b0, hk, hval, hd, ρ, F, H0, hs, hw => by
    cases ts with
    | nil => exact hk.elim
    | cons t ts =>
      obtain ⟨hk1, hk2⟩ := hk
      obtain ⟨v, vs', d, ds', p, q, rfl, rfl, rfl, h1, h2⟩ := trodAll_cons hd
      have hv := hval 0 t v rfl rfl
      have hval' : ∀ (j : Nat) t v, ts[j]? = some t → vs'[j]? = some v → Value.okWide P W r b0 t v := fun j t v a b => hval (j + 1) t v (by simpa using a) (by simpa using b)
      cases k with
      | row tg =>
        obtain ⟨ht, ok⟩ := hk1
        obtain ⟨l, G, hG, hwf, hml, ⟨a, cap, hv2⟩, hh⟩ := open_row ok ht hv h1
        have hlen := hs.len
        have hs1 : Sat elT (ρ ++ [v]) (fset F H0.length G) (H0 ++ [.row tg l true]) W := by
          refine ⟨by simp [hlen], ?_, ?_, ?_⟩
          · intro i b x hb hx
            rcases push_get hb with ⟨hi, hb⟩ | ⟨rfl, rfl⟩
            · have hx' : ρ[i]? = some x := by rw [List.getElem?_append_left (by omega)] at hx; exact hx
              have e : fset F H0.length G i = F i := by unfold fset; rw [if_neg (by omega)]
              rw [e]
              exact Blk.holds_le (by intro i x h; exact List.getElem?_append_left (List.getElem?_eq_some_iff.1 h).1 ▸ h) (fun _ _ => rfl) b (hs.each i b x hb hx')
            · have hx' : x = v := by
                rw [List.getElem?_append_right (by omega)] at hx
                rw [show H0.length - ρ.length = 0 by omega] at hx
                simpa using hx.symm
              subst hx'
              have e : fset F H0.length G H0.length = G := by simp [fset]
              rw [e]
              exact hh _
          · intro i b hb n hn
            rcases push_get hb with ⟨hi, hb⟩ | ⟨rfl, rfl⟩
            · have e : fset F H0.length G i = F i := by unfold fset; rw [if_neg (by omega)]
              rw [e] at hn
              exact hs.lt i b hb n hn
            · have e : fset F H0.length G H0.length = G := by simp [fset]
              rw [e] at hn
              exact hG n hn
          · intro i j bi bj hbi hbj hij hwi
            exfalso
            have hm := List.mem_of_getElem? hbi
            rcases List.mem_append.1 hm with hm | hm
            · rw [hw bi hm] at hwi; cases hwi
            · simp at hm; subst hm; cases hwi
        have hw1 : ∀ b ∈ H0 ++ [Blk.row tg l true], b.writable = false := by
          intro b hb
          rcases List.mem_append.1 hb with hb | hb
          · exact hw b hb
          · simp at hb; subst hb; rfl
        obtain ⟨ags, H1, ρ', F', g1, g2, g3, g4, g5⟩ := open_args ks ts vs' ds' q r b0 hk2 hval' h2 _ _ _ hs1 hw1
        have hρ : ρ'[ρ.length]? = some v := g5 _ _ (by simp)
        refine ⟨.row ρ.length :: ags, .row tg l true :: H1, ρ', F', ⟨l, ags, H1, rfl, rfl, hwf, hml, by simpa using g1⟩, ?_, by simpa using g3, by simpa using g4, ?_⟩
        · have e : (V.row ρ.length).den ρ' = some v := by subst hv2; simp only [V.den, hρ]
          simp only [denL, e, g2]
        · intro i x hx
          exact g5 i x (by rw [List.getElem?_append_left (List.getElem?_eq_some_iff.1 hx).1]; exact hx)
      | el tg =>
        obtain ⟨rfl, ok⟩ := hk1
        obtain ⟨fuel, hf⟩ := h1
        obtain ⟨e, he, hwf⟩ := ok.reads enc W 0 sp held fuel _ _ hf
        obtain ⟨ags, H1, ρ', F', g1, g2, g3, g4, g5⟩ := open_args ks ts vs' ds' q r b0 hk2 hval' h2 ρ F H0 hs hw
        refine ⟨elV tg e :: ags, H1, ρ', F', ⟨e, ags, rfl, hwf, g1⟩, ?_, g3, g4, g5⟩
        simp only [denL, ok.value W r b0 v e hv he ρ', g2]
theorem trodAll_stays (hl : laidOutB P = true) {W' : World} {sp' : Nat → Bool} : ∀ {ts : List TypeId} {vs : List Value} {ds : List (DataW H)} {ps : List MemPlace}, ts.all (fun t => P.readableRec t && decide (t < P.types.size)) = true →
    DataW.TrodAll enc P W 0 (fun _ => true) true ts vs ds ps → (∀ x ∈ ps, W.sameAt W' x) → (∀ x ∈ ps, sp' x.block = true) → DataW.TrodAll enc P W' 0 sp' true ts vs ds ps
  | [], vs, ds, ps, _, h, _, _ => by
    obtain ⟨rfl, rfl, rfl⟩ := trodAll_nil h
    rfl
  | t :: ts, vs, ds, ps, hr, h, h1, h2 => by
    obtain ⟨v, vs', d, ds', p, q, rfl, rfl, rfl, g1, g2⟩ := trodAll_cons h
    simp only [List.all_cons, Bool.and_eq_true, decide_eq_true_eq] at hr
    exact ⟨p, q, WideElems.Trod_stays hl hr.1.1 hr.1.2 g1 (fun x hx => h1 x (by simp [hx])) (fun x hx => h2 x (by simp [hx])),
      trodAll_stays hl hr.2 g2 (fun x hx => h1 x (by simp [hx])) (fun x hx => h2 x (by simp [hx])), rfl⟩
theorem post_law {f : Func} {s : ChangeSpec} {apart fresh handsOn : Bool} {tb : TypeId} (hl : laidOutB P = true) (htb : P.underlying tb = some .bool) (hres : f.resultTypes = #[tb]) (hall : f.params.toList.all (fun t => P.readableRec t && decide (t < P.types.size)) = true)
    (hsv : s.vars = []) (hsp : ∀ ds : List (DataW H), ds.length = f.params.toList.length → s.fn H ds = { results := [.lit (.bool true)], args := ds })
    {W W' : World} {args : Array Value} {ds gs : List (DataW H)} {before : List MemPlace} (hW : DataW.Whole enc P f.params.toList s.vars apart W args.toList ds gs before) (hb : Below W.heap.size W W') :
    s.post enc P f apart fresh handsOn false W args (.bool true) W' := by
  have hlt : ∀ p ∈ before, p.block < W.heap.size := fun p hp => hW.lt p hp
  have hW' := hW
  obtain ⟨p, q, hA, hV, rfl, hfz, hnd⟩ := hW
  rw [hsv] at hV
  obtain ⟨rfl, rfl⟩ := trodVars_none hV
  have hlen : ∀ (ts : List TypeId) (vs : List Value) (ds : List (DataW H)) (ps : List MemPlace), DataW.TrodAll enc P W 0 (fun _ => true) true ts vs ds ps → ds.length = ts.length := by
    intro ts
    induction ts with
    | nil => intro vs ds ps h; obtain ⟨rfl, rfl, rfl⟩ := trodAll_nil h; rfl
    | cons t ts ih =>
      intro vs ds ps h
      obtain ⟨v, vs', d, ds', p, q, rfl, rfl, rfl, g1, g2⟩ := trodAll_cons h
      simp [ih _ _ _ g2]
  have hfn : s.fn H (ds ++ []) = { results := [.lit (.bool true)], args := ds } := by rw [List.append_nil]; exact hsp ds (hlen _ _ _ _ hA)
  refine ⟨ds, [], p ++ [], [], p, [], hW', ?_, ?_, ?_, hb.frame _, fun h => by cases h⟩
  · rw [hfn, hres]
    exact trodAll_mk1 (shut_bool htb true)
  · rw [hfn]
    exact trodAll_stays hl hall hA (fun x hx => hb.same (hlt x (by simpa using hx))) (fun x hx => by simpa using hlt x (by simpa using hx))
  · rw [hfn, hsv]
    rfl
theorem yj1 {f : Func} {s : ChangeSpec} {apart fresh handsOn : Bool} {tb : TypeId} {g : FuncId} {ks : List AK} (hspec : SpecOK P elT g (lawS ks)) (hk : AKsOK P elT ks f.params.toList)
    (hl : laidOutB P = true) (htb : P.underlying tb = some .bool) (hres : f.resultTypes = #[tb]) (hall : f.params.toList.all (fun t => P.readableRec t && decide (t < P.types.size)) = true)
    (hsv : s.vars = []) (hsp : ∀ ds : List (DataW H), ds.length = f.params.toList.length → s.fn H ds = { results := [.lit (.bool true)], args := ds })
    {W : World} {r : Reach} {base : Nat} {args : Array Value} {ds gs : List (DataW H)} {before : List MemPlace} (hval : ∀ (j : Nat) t v, f.params[j]? = some t → args[j]? = some v → Value.okWide P W r base t v)
    (hW : DataW.Whole enc P f.params.toList s.vars apart W args.toList ds gs before) :
    Calls P g args W fun e W' => ∃ v, e = .returned v ∧ s.post enc P f apart fresh handsOn false W args v W' := by
  have hW' := hW
  obtain ⟨p, q, hA, _⟩ := hW
  have h0 : Sat elT [] (fun _ => []) [] W := ⟨rfl, fun i b x hb => by simp at hb, fun i b hb => by simp at hb, fun i j bi bj hb => by simp at hb⟩
  obtain ⟨ags, H1, ρ, F, g1, g2, g3, g4, _⟩ := open_args ks f.params.toList args.toList ds p r base hk (fun j t v a b => hval j t v (by simpa using a) (by simpa using b)) hA [] (fun _ => []) [] h0 (by simp)
  have hc := hspec.2 ags H1 (fun v _ => v = vb true) ⟨g1, fun _ => rfl⟩ ρ F W args.toList g2 (by simpa using g3)
  rw [Array.toArray_toList] at hc
  refine hc.mono fun e W' h => ?_
  obtain ⟨v, x, ρ', F', H', rfl, rfl, hr, _, _, hfr⟩ := h
  have hx : x = .bool true := den_ext hr
  subst hx
  have hnw : ∀ (i : Nat) (b : Blk), H1[i]? = some b → b.writable = true → False := fun i b hb hw => by
    have := g4 b (by simpa using List.mem_of_getElem? hb)
    rw [this] at hw; cases hw
  have hb : Below W.heap.size W W' := ⟨hfr.os, hfr.tape, hfr.output, hfr.size, fun n hn => hfr.block n hn (fun i b hb hw => (hnw i b hb hw).elim)⟩
  exact ⟨_, rfl, post_law hl htb hres hall hsv hsp hW' hb⟩
end
def flatFs (P : Program) (rec : TypeId → Option (List Bool)) : List Field → Nat → Option (List Bool)
  | [], _ => some []
  | f :: fs, o => match rec f.type with
    | none => none
    | some a => bif Nat.beq f.offset o && Nat.beq (P.cellsOf f.type) a.length then match flatFs P rec fs (o + a.length) with
      | some b => some (a ++ b)
      | none => none
      else none
def flatK (P : Program) : Nat → TypeId → Option (List Bool)
  | 0, _ => none
  | n + 1, t => match P.underlying t with
    | some .bool => some [false]
    | some (.int .i64) => some [true]
    | some (.struct fs) => match flatFs P (flatK P n) fs.toList 0 with
      | some ks => bif Nat.beq (P.cellsOf t) ks.length then some ks else none
      | none => none
    | _ => none
def goodCell (b : Bool) (v : Option Value) : Prop := match b with
  | true => ∃ n, v = some (.int .i64 n) ∧ (Lit.int .i64 n).wf = true
  | false => ∃ c, v = some (.bool c)
section
variable {P : Program} {elT : ET} {H : Type} {enc : TypeId × Value → H} {W : World} {sp : Nat → Bool} {held : Bool}
theorem flatFs_good {rec : TypeId → Option (List Bool)} {base : Nat} {cs : List Value} (hrec : ∀ t ks fuel cs (x : DataW H × List MemPlace), rec t = some ks → DataW.trod enc P W base sp held fuel t cs = some x → cs.length = ks.length ∧ ∀ (i : Nat) (b : Bool), ks[i]? = some b → goodCell b cs[i]?) {n : Nat} :
    ∀ (fl : List Field) (o : Nat) (ks : List Bool), (∀ f ∈ fl, ∃ y, DataW.trod enc P W base sp held n f.type ((cs.drop f.offset).take (P.cellsOf f.type)) = some y) → flatFs P rec fl o = some ks → ∀ (i : Nat) (b : Bool), ks[i]? = some b → goodCell b cs[o + i]?
  | [], o, ks, _, h, i, b, hb => by simp only [flatFs, Option.some.injEq] at h; subst h; simp at hb
  | f :: fl, o, ks, hall, h, i, b, hb => by
    simp only [flatFs] at h
    split at h
    · cases h
    · rename_i a ha
      cases hc : (Nat.beq f.offset o && Nat.beq (P.cellsOf f.type) a.length) with
      | false => rw [hc] at h; cases h
      | true =>
        rw [hc] at h
        simp only [cond_true] at h
        simp only [Bool.and_eq_true] at hc
        have e1 := Nat.eq_of_beq_eq_true hc.1
        have e2 := Nat.eq_of_beq_eq_true hc.2
        split at h
        · rename_i b' hb'
          injection h with h
          subst h
          rcases Nat.lt_or_ge i a.length with hi | hi
          · rw [List.getElem?_append_left hi] at hb
            obtain ⟨y, hy⟩ := hall f (by simp)
            have hg := (hrec f.type a n _ y ha hy).2 i b hb
            rw [e1, e2, List.getElem?_take, if_pos hi, List.getElem?_drop] at hg
            exact hg
          · rw [List.getElem?_append_right hi] at hb
            have := flatFs_good hrec fl (o + a.length) b' (fun f hf => hall f (by simp [hf])) hb' (i - a.length) b hb
            rw [show o + a.length + (i - a.length) = o + i by omega] at this
            exact this
        · cases h
theorem flatK_good {base : Nat} : ∀ (n : Nat) (t : TypeId) (ks : List Bool) (fuel : Nat) (cs : List Value) (x : DataW H × List MemPlace), flatK P n t = some ks → DataW.trod enc P W base sp held fuel t cs = some x →
    cs.length = ks.length ∧ ∀ (i : Nat) (b : Bool), ks[i]? = some b → goodCell b cs[i]?
  | 0, t, ks, fuel, cs, x, h, _ => by cases h
  | n + 1, t, ks, fuel, cs, x, h, hx => by
    simp only [flatK] at h
    split at h
    · rename_i ht
      injection h with h; subst h
      obtain ⟨b, rfl, _⟩ := DataW.trod_bool ht hx
      refine ⟨rfl, fun i b' hb => ?_⟩
      cases i with
      | zero => simp at hb; subst hb; exact ⟨b, rfl⟩
      | succ i => simp at hb
    · rename_i ht
      injection h with h; subst h
      obtain ⟨m, rfl, _, hw⟩ := DataW.trod_int ht hx
      refine ⟨rfl, fun i b' hb => ?_⟩
      cases i with
      | zero => simp at hb; subst hb; exact ⟨m, rfl, hw⟩
      | succ i => simp at hb
    · rename_i fs ht
      split at h
      · rename_i ks' hks
        cases hc : Nat.beq (P.cellsOf t) ks'.length with
        | false => rw [hc] at h; cases h
        | true =>
          rw [hc] at h
          injection h with h; subst h
          obtain ⟨xs, m, _, _, hlen, hxs, hall⟩ := DataW.trod_struct ht hx
          refine ⟨by rw [hlen, Nat.eq_of_beq_eq_true hc], fun i b hb => ?_⟩
          have := flatFs_good (enc := enc) (W := W) (sp := sp) (held := held) (base := base) (cs := cs) (n := m) (fun t ks fuel cs x a b => flatK_good n t ks fuel cs x a b) fs.toList 0 ks' (fun f hf => by
            obtain ⟨k, hk⟩ := List.getElem?_of_mem hf
            rw [Array.getElem?_toList] at hk
            have h1 := hall k f hk
            have hi : k < fs.size := (Array.getElem?_eq_some_iff.1 hk).1
            rw [List.getElem?_eq_getElem (by omega)] at h1
            exact ⟨_, h1⟩) hks i b hb
          rwa [Nat.zero_add] at this
      · cases h
    · cases h
theorem elOK_int (ht : P.underlying (elT 0) = some (.int .i64)) (hc : P.cellsOf (elT 0) = 1) : ElOK P elT 0 := by
  refine ⟨hc, fun enc W base sp held fuel cs x h => ?_, fun W r b v e hv hcs ρ => ?_⟩
  · obtain ⟨n, rfl, _, hw⟩ := DataW.trod_int ht h
    refine ⟨n, rfl, fun k m hm => ?_⟩
    simp [elEnc, i64] at hm
    obtain ⟨rfl, rfl⟩ := hm
    exact hw
  · simp only [Value.okWide, ht, Cell.okWide] at hv
    have hcs' : v.cells.toList = [.int .i64 e] := hcs
    show some (Value.int .i64 e) = some v
    cases v <;> simp_all [Cell.ok, Value.cells]
theorem struct_value {tg : Nat} {e : El tg} {fs : Array Field} {W : World} {r : Reach} {b : Nat} {v : Value} (ht : P.underlying (elT tg) = some (.struct fs)) (hv : Value.okWide P W r b (elT tg) v) (hcs : v.cells.toList = elEnc tg e) (ρ : List Value) :
    (V.agg ((elEnc tg e).map .ext)).den ρ = some v := by
  obtain ⟨cs, rfl, _⟩ := okWide_struct ht hv
  simp only [Value.cells] at hcs
  simp only [V.den, denL_ext]
  rw [← hcs]
end
end Go.Rx
end

section
namespace Go.Rx
open Go.ChangeShapes Go.WideShapes
theorem elOK_ints {P : Program} {elT : ET} {fs : Array Field} {m : Nat} (ht : P.underlying (elT (m + 4)) = some (.struct fs)) (hc : P.cellsOf (elT (m + 4)) = m % 32 + 1)
    (hf : flatK P 6 (elT (m + 4)) = some (List.replicate (m % 32 + 1) true)) : ElOK P elT (m + 4) := by
  refine ⟨hc, fun enc W base sp held fuel cs x h => ?_, fun W r b v e hv hcs ρ => struct_value ht hv hcs ρ⟩
  obtain ⟨hlen, hg⟩ := flatK_good 6 (elT (m + 4)) _ fuel cs x hf h
  rw [List.length_replicate] at hlen
  have hI : ∀ i, i < m % 32 + 1 → ∃ n, cs[i]? = some (.int .i64 n) ∧ (Lit.int .i64 n).wf = true := fun i hi => hg i true (by rw [List.getElem?_replicate, if_pos hi])
  obtain ⟨N, hN⟩ := Deep.choose_lt hI
  have hget : ∀ i, i < m % 32 + 1 → ((List.range (m % 32 + 1)).map N).getD i 0 = N i := fun i hi => by simp [List.getD, hi]
  have hcs : cs = elEnc (m + 4) ((List.range (m % 32 + 1)).map N : List Int) := by
    show cs = (List.range (m % 32 + 1)).map fun i => i64 (((List.range (m % 32 + 1)).map N).getD i 0)
    apply List.ext_getElem?
    intro i
    rcases Nat.lt_or_ge i (m % 32 + 1) with hi | hi
    · rw [(hN i hi).1, List.getElem?_map, List.getElem?_range hi, Option.map_some, hget i hi]
    · rw [List.getElem?_eq_none (by omega), List.getElem?_eq_none (by simpa using hi)]
  refine ⟨_, hcs, fun k n hm => ?_⟩
  have hm' : Value.int k n ∈ cs := by rw [hcs]; exact hm
  obtain ⟨i, hi⟩ := List.getElem?_of_mem hm'
  have hil : i < m % 32 + 1 := by rw [← hlen]; exact (List.getElem?_eq_some_iff.1 hi).1
  obtain ⟨h1, h2⟩ := hN i hil
  rw [h1] at hi
  injection hi with hi
  injection hi with e1 e2
  subst e1; subst e2
  exact h2
end Go.Rx
end

section
namespace Go.Rx
open Go.Proofs
theorem yj5 : SpecOK Tryz.prog elTT 4 (lawS [.el 14, .row 6, .el 0]) := spec_mono (fun args H K h => by
  obtain ⟨ha, hk⟩ := h
  obtain ⟨e0, _, rfl, hw0, l1, _, _, rfl, rfl, hw1, hn1, e2, _, rfl, hw2, rfl, rfl⟩ := ha
  show So (y4p (⟨List.getD (e0 : List Int) 0 0, List.getD (e0 : List Int) 1 0, List.getD (e0 : List Int) 2 0, List.getD (e0 : List Int) 3 0, List.getD (e0 : List Int) 4 0, List.getD (e0 : List Int) 5 0, List.getD (e0 : List Int) 6 0, List.getD (e0 : List Int) 7 0, List.getD (e0 : List Int) 8 0, List.getD (e0 : List Int) 9 0, List.getD (e0 : List Int) 10 0⟩ : yb) e2 l1) _
  exact So_eq (PagesFullest_main _ _ _) (hk _)) yjz
end Go.Rx
end
