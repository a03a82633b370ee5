/- What the row's text of this claim stands on, part 6: the symbolic executor, contracts of the program's functions, plain facts. No condition. -/
import Derived.WalkKit
import Derived.ProofKit
import Derived.OpenShut
import Derived.Carry
import Derived.Deep.Slices
import Derived.JoinedOf
import Derived.Test.YtoejhbeppjagnaaGreatK11bE
section
namespace Go.Rx
open Go.ChangeShapes Go.WideShapes Go.ChangeAt Go.RowKit
inductive AK where
  | row (tg : Nat)
  | el (tg : Nat)
def elWf (tg : Nat) (e : El tg) : Prop := ∀ k n, Value.int k n ∈ elEnc tg e → (Lit.int k n).wf = true
def elV : (tg : Nat) → El tg → V
  | 0, (n : Int) => vi n
  | 1, (b : Bool) => vb b
  | t, e => .agg ((elEnc t e).map .ext)
def ArgsOf : List AK → Nat → List V → Heap → Prop
  | [], _, ags, H => ags = [] ∧ H = []
  | .row tg :: ks, n, ags, H => ∃ (l : List (El tg)) (ags' : List V) (H' : Heap), ags = .row n :: ags' ∧ H = .row tg l true :: H' ∧ (∀ e ∈ l, elWf tg e) ∧ l.length ≤ maxLen ∧ ArgsOf ks (n + 1) ags' H'
  | .el tg :: ks, n, ags, H => ∃ (e : El tg) (ags' : List V), ags = elV tg e :: ags' ∧ elWf tg e ∧ ArgsOf ks n ags' H
def lawS (ks : List AK) : Spec where
  tr := fun args H K => ArgsOf ks 0 args H ∧ ∀ H', K (vb true) H'
section
variable {P : Program} {elT : ET}
structure ElOK (P : Program) (elT : ET) (tg : Nat) : Prop where
  cells : P.cellsOf (elT tg) = elM tg
  reads : ∀ {H : Type} (enc : TypeId × Value → H) (W : World) (base : Nat) (sp : Nat → Bool) (held : Bool) (fuel : Nat) (cs : List Value) (x : DataW H × List MemPlace),
    DataW.trod enc P W base sp held fuel (elT tg) cs = some x → ∃ e : El tg, cs = elEnc tg e ∧ elWf tg e
  value : ∀ (W : World) (r : Reach) (b : Nat) (v : Value) (e : El tg), Value.okWide P W r b (elT tg) v → v.cells.toList = elEnc tg e → ∀ ρ, (elV tg e).den ρ = some v
variable {H : Type} {enc : TypeId × Value → H} {W : World} {sp : Nat → Bool} {held : Bool}
theorem open_row {tg : Nat} (ok : ElOK P elT tg) {t : TypeId} (ht : P.underlying t = some (.slice (elT tg))) {r : Reach} {b0 : Nat} {v : Value} {d : DataW H} {ps : List MemPlace}
    (hval : Value.okWide P W r b0 t v) (hd : DataW.Trod enc P W 0 sp held t v d ps) :
    ∃ (l : List (El tg)) (F : List Nat), (∀ n ∈ F, n < W.heap.size) ∧ (∀ e ∈ l, elWf tg e) ∧ l.length ≤ maxLen ∧ (∃ a cap, v = .slice a l.length cap) ∧ ∀ ρ, (Blk.row tg l true).holds elT ρ W v F := by
  obtain ⟨a, len, cap, rfl⟩ := okWide_slice ht hval
  obtain ⟨fuel, hf⟩ := hd
  rcases Deep.open_slice ht hf with ⟨h, _⟩ | ⟨ad, len', cap', m, n, D, Pl, h, _, hl, hm, hmm, _, hx⟩
  · simp [Value.cells] at h
    obtain ⟨rfl, rfl, rfl⟩ := h
    exact ⟨[], [], by simp, by simp, Nat.zero_le _, ⟨none, 0, rfl⟩, fun ρ => ⟨none, 0, rfl, Nat.le_refl _, Nat.zero_le _, fun _ => rfl, fun j x hj => by simp [flat] at hj⟩⟩
  · simp [Value.cells] at h
    obtain ⟨rfl, rfl, rfl⟩ := h
    have hlm : len ≤ m := by rw [hmm]; split <;> omega
    have key : ∀ i, i < len → ∃ e : El tg, W.cells? 0 (ad.add (i * elM tg)) (elM tg) = some (elEnc tg e) ∧ elWf tg e := by
      intro i hi
      obtain ⟨cs', h1, h2⟩ := hx i (by omega)
      rw [ok.cells] at h1
      obtain ⟨e, he, hw⟩ := ok.reads enc W 0 sp held n cs' _ h2
      exact ⟨e, by rw [h1, he], hw⟩
    haveI : Inhabited (El tg) := ⟨elD tg⟩
    obtain ⟨E, hE⟩ := Deep.choose_lt key
    refine ⟨(List.range len).map E, if ad.block < W.heap.size then [ad.block] else [], ?_, ?_, by simp; omega, ⟨some ad, cap, by simp⟩, fun ρ => ⟨some ad, cap, by simp, by simpa using hl, hm, (fun h => by cases h), fun j x hj => ?_⟩⟩
    · intro n hn
      split at hn
      · rename_i hb; simp at hn; omega
      · simp at hn
    · intro e he
      obtain ⟨i, hi, rfl⟩ := List.mem_map.1 he
      exact (hE i (by simpa using hi)).2
    · have hjl : j < len * elM tg := by
        have := (List.getElem?_eq_some_iff.1 hj).1
        rw [flat_len] at this; simpa using this
      have hM : 0 < elM tg := by
        rcases Nat.eq_zero_or_pos (elM tg) with h | h
        · rw [h] at hjl; simp at hjl
        · exact h
      have hk : j / elM tg < len := (Nat.div_lt_iff_lt_mul hM).2 hjl
      have hr : j % elM tg < elM tg := Nat.mod_lt _ hM
      have hje : j = j / elM tg * elM tg + j % elM tg := by rw [Nat.mul_comm]; exact (Nat.div_add_mod _ _).symm
      rw [hje, flat_get tg _ _ (by simpa using hk) _ hr] at hj
      have hg : ((List.range len).map E).getD (j / elM tg) (elD tg) = E (j / elM tg) := by simp [List.getD, hk]
      rw [hg] at hj
      obtain ⟨_, _, hc⟩ := World.cells?_some (hE _ hk).1
      have := hc _ hr
      rw [hj, Deep.add_add, ← hje] at this
      refine ⟨ad, rfl, ?_, this⟩
      have hb : (ad.add j).block = ad.block := block_add ad j
      have hlt : ad.block < W.heap.size := by
        rcases Nat.lt_or_ge ad.block W.heap.size with h | h
        · exact h
        · rw [← hb] at h
          simp [World.cell?, Array.getElem?_eq_none h] at this
      simp [hlt]
def AKOK (P : Program) (elT : ET) : AK → TypeId → Prop
  | .row tg, t => P.underlying t = some (.slice (elT tg)) ∧ ElOK P elT tg
  | .el tg, t => t = elT tg ∧ ElOK P elT tg
def AKsOK (P : Program) (elT : ET) : List AK → List TypeId → Prop
  | [], [] => True
  | k :: ks, t :: ts => AKOK P elT k t ∧ AKsOK P elT ks ts
  | _, _ => False
theorem open_args : ∀ (ks : List AK) (ts : List TypeId) (vs : List Value) (ds : List (DataW H)) (ps : List MemPlace) (r : Reach) (b0 : Nat), AKsOK P elT ks ts →
    (∀ (j : Nat) t v, ts[j]? = some t → vs[j]? = some v → Value.okWide P W r b0 t v) → DataW.TrodAll enc P W 0 sp held ts vs ds ps → ∀ (ρ : List Value) (F : Nat → List Nat) (H0 : Heap), Sat elT ρ F H0 W → (∀ b ∈ H0, b.writable = false) →
    ∃ (ags : List V) (H1 : Heap) (ρ' : List Value) (F' : Nat → List Nat), ArgsOf ks ρ.length ags H1 ∧ denL ρ' ags = some vs ∧ Sat elT ρ' F' (H0 ++ H1) W ∧ (∀ b ∈ H0 ++ H1, b.writable = false) ∧ Le ρ ρ'
  | [], ts, vs, ds, ps, r, b0, hk, _, hd, ρ, F, H0, hs, hw => by
    cases ts with
    | cons t ts => exact hk.elim
    | nil =>
      obtain ⟨rfl, rfl, rfl⟩ := trodAll_nil hd
      exact ⟨[], [], ρ, F, ⟨rfl, rfl⟩, rfl, by simpa using hs, by simpa using hw, Le.refl ρ⟩
  | k :: ks, ts, vs, ds, ps, r, b0, hk, hval, hd, ρ, F, H0, hs, hw => by
    cases ts with
    | nil => exact hk.elim
    | cons t ts =>
      obtain ⟨hk1, hk2⟩ := hk
      obtain ⟨v, vs', d, ds', p, q, rfl, rfl, rfl, h1, h2⟩ := trodAll_cons hd
      have hv := hval 0 t v rfl rfl
      have hval' : ∀ (j : Nat) t v, ts[j]? = some t → vs'[j]? = some v → Value.okWide P W r b0 t v := fun j t v a b => hval (j + 1) t v (by simpa using a) (by simpa using b)
      cases k with
      | row tg =>
        obtain ⟨ht, ok⟩ := hk1
        obtain ⟨l, G, hG, hwf, hml, ⟨a, cap, hv2⟩, hh⟩ := open_row ok ht hv h1
        have hlen := hs.len
        have hs1 : Sat elT (ρ ++ [v]) (fset F H0.length G) (H0 ++ [.row tg l true]) W := by
          refine ⟨by simp [hlen], ?_, ?_, ?_⟩
          · intro i b x hb hx
            rcases push_get hb with ⟨hi, hb⟩ | ⟨rfl, rfl⟩
            · have hx' : ρ[i]? = some x := by rw [List.getElem?_append_left (by omega)] at hx; exact hx
              have e : fset F H0.length G i = F i := by unfold fset; rw [if_neg (by omega)]
              rw [e]
              exact Blk.holds_le (by intro i x h; exact List.getElem?_append_left (List.getElem?_eq_some_iff.1 h).1 ▸ h) (fun _ _ => rfl) b (hs.each i b x hb hx')
            · have hx' : x = v := by
                rw [List.getElem?_append_right (by omega)] at hx
                rw [show H0.length - ρ.length = 0 by omega] at hx
                simpa using hx.symm
              subst hx'
              have e : fset F H0.length G H0.length = G := by simp [fset]
              rw [e]
              exact hh _
          · intro i b hb n hn
            rcases push_get hb with ⟨hi, hb⟩ | ⟨rfl, rfl⟩
            · have e : fset F H0.length G i = F i := by unfold fset; rw [if_neg (by omega)]
              rw [e] at hn
              exact hs.lt i b hb n hn
            · have e : fset F H0.length G H0.length = G := by simp [fset]
              rw [e] at hn
              exact hG n hn
          · intro i j bi bj hbi hbj hij hwi
            exfalso
            have hm := List.mem_of_getElem? hbi
            rcases List.mem_append.1 hm with hm | hm
            · rw [hw bi hm] at hwi; cases hwi
            · simp at hm; subst hm; cases hwi
        have hw1 : ∀ b ∈ H0 ++ [Blk.row tg l true], b.writable = false := by
          intro b hb
          rcases List.mem_append.1 hb with hb | hb
          · exact hw b hb
          · simp at hb; subst hb; rfl
        obtain ⟨ags, H1, ρ', F', g1, g2, g3, g4, g5⟩ := open_args ks ts vs' ds' q r b0 hk2 hval' h2 _ _ _ hs1 hw1
        have hρ : ρ'[ρ.length]? = some v := g5 _ _ (by simp)
        refine ⟨.row ρ.length :: ags, .row tg l true :: H1, ρ', F', ⟨l, ags, H1, rfl, rfl, hwf, hml, by simpa using g1⟩, ?_, by simpa using g3, by simpa using g4, ?_⟩
        · have e : (V.row ρ.length).den ρ' = some v := by subst hv2; simp only [V.den, hρ]
          simp only [denL, e, g2]
        · intro i x hx
          exact g5 i x (by rw [List.getElem?_append_left (List.getElem?_eq_some_iff.1 hx).1]; exact hx)
      | el tg =>
        obtain ⟨rfl, ok⟩ := hk1
        obtain ⟨fuel, hf⟩ := h1
        obtain ⟨e, he, hwf⟩ := ok.reads enc W 0 sp held fuel _ _ hf
        obtain ⟨ags, H1, ρ', F', g1, g2, g3, g4, g5⟩ := open_args ks ts vs' ds' q r b0 hk2 hval' h2 ρ F H0 hs hw
        refine ⟨elV tg e :: ags, H1, ρ', F', ⟨e, ags, rfl, hwf, g1⟩, ?_, g3, g4, g5⟩
        simp only [denL, ok.value W r b0 v e hv he ρ', g2]
theorem trodAll_stays (hl : laidOutB P = true) {W' : World} {sp' : Nat → Bool} : ∀ {ts : List TypeId} {vs : List Value} {ds : List (DataW H)} {ps : List MemPlace}, ts.all (fun t => P.readableRec t && decide (t < P.types.size)) = true →
    DataW.TrodAll enc P W 0 (fun _ => true) true ts vs ds ps → (∀ x ∈ ps, W.sameAt W' x) → (∀ x ∈ ps, sp' x.block = true) → DataW.TrodAll enc P W' 0 sp' true ts vs ds ps
  | [], vs, ds, ps, _, h, _, _ => by
    obtain ⟨rfl, rfl, rfl⟩ := trodAll_nil h
    rfl
  | t :: ts, vs, ds, ps, hr, h, h1, h2 => by
    obtain ⟨v, vs', d, ds', p, q, rfl, rfl, rfl, g1, g2⟩ := trodAll_cons h
    simp only [List.all_cons, Bool.and_eq_true, decide_eq_true_eq] at hr
    exact ⟨p, q, WideElems.Trod_stays hl hr.1.1 hr.1.2 g1 (fun x hx => h1 x (by simp [hx])) (fun x hx => h2 x (by simp [hx])),
      trodAll_stays hl hr.2 g2 (fun x hx => h1 x (by simp [hx])) (fun x hx => h2 x (by simp [hx])), rfl⟩
theorem post_law {f : Func} {s : ChangeSpec} {apart fresh handsOn : Bool} {tb : TypeId} (hl : laidOutB P = true) (htb : P.underlying tb = some .bool) (hres : f.resultTypes = #[tb]) (hall : f.params.toList.all (fun t => P.readableRec t && decide (t < P.types.size)) = true)
    (hsv : s.vars = []) (hsp : ∀ ds : List (DataW H), ds.length = f.params.toList.length → s.fn H ds = { results := [.lit (.bool true)], args := ds })
    {W W' : World} {args : Array Value} {ds gs : List (DataW H)} {before : List MemPlace} (hW : DataW.Whole enc P f.params.toList s.vars apart W args.toList ds gs before) (hb : Below W.heap.size W W') :
    s.post enc P f apart fresh handsOn false W args (.bool true) W' := by
  have hlt : ∀ p ∈ before, p.block < W.heap.size := fun p hp => hW.lt p hp
  have hW' := hW
  obtain ⟨p, q, hA, hV, rfl, hfz, hnd⟩ := hW
  rw [hsv] at hV
  obtain ⟨rfl, rfl⟩ := trodVars_none hV
  have hlen : ∀ (ts : List TypeId) (vs : List Value) (ds : List (DataW H)) (ps : List MemPlace), DataW.TrodAll enc P W 0 (fun _ => true) true ts vs ds ps → ds.length = ts.length := by
    intro ts
    induction ts with
    | nil => intro vs ds ps h; obtain ⟨rfl, rfl, rfl⟩ := trodAll_nil h; rfl
    | cons t ts ih =>
      intro vs ds ps h
      obtain ⟨v, vs', d, ds', p, q, rfl, rfl, rfl, g1, g2⟩ := trodAll_cons h
      simp [ih _ _ _ g2]
  have hfn : s.fn H (ds ++ []) = { results := [.lit (.bool true)], args := ds } := by rw [List.append_nil]; exact hsp ds (hlen _ _ _ _ hA)
  refine ⟨ds, [], p ++ [], [], p, [], hW', ?_, ?_, ?_, hb.frame _, fun h => by cases h⟩
  · rw [hfn, hres]
    exact trodAll_mk1 (shut_bool htb true)
  · rw [hfn]
    exact trodAll_stays hl hall hA (fun x hx => hb.same (hlt x (by simpa using hx))) (fun x hx => by simpa using hlt x (by simpa using hx))
  · rw [hfn, hsv]
    rfl
theorem yj7 {f : Func} {s : ChangeSpec} {apart fresh handsOn : Bool} {tb : TypeId} {g : FuncId} {ks : List AK} (hspec : SpecOK P elT g (lawS ks)) (hk : AKsOK P elT ks f.params.toList)
    (hl : laidOutB P = true) (htb : P.underlying tb = some .bool) (hres : f.resultTypes = #[tb]) (hall : f.params.toList.all (fun t => P.readableRec t && decide (t < P.types.size)) = true)
    (hsv : s.vars = []) (hsp : ∀ ds : List (DataW H), ds.length = f.params.toList.length → s.fn H ds = { results := [.lit (.bool true)], args := ds })
    {W : World} {r : Reach} {base : Nat} {args : Array Value} {ds gs : List (DataW H)} {before : List MemPlace} (hval : ∀ (j : Nat) t v, f.params[j]? = some t → args[j]? = some v → Value.okWide P W r base t v)
    (hW : DataW.Whole enc P f.params.toList s.vars apart W args.toList ds gs before) :
    Calls P g args W fun e W' => ∃ v, e = .returned v ∧ s.post enc P f apart fresh handsOn false W args v W' := by
  have hW' := hW
  obtain ⟨p, q, hA, _⟩ := hW
  have h0 : Sat elT [] (fun _ => []) [] W := ⟨rfl, fun i b x hb => by simp at hb, fun i b hb => by simp at hb, fun i j bi bj hb => by simp at hb⟩
  obtain ⟨ags, H1, ρ, F, g1, g2, g3, g4, _⟩ := open_args ks f.params.toList args.toList ds p r base hk (fun j t v a b => hval j t v (by simpa using a) (by simpa using b)) hA [] (fun _ => []) [] h0 (by simp)
  have hc := hspec.2 ags H1 (fun v _ => v = vb true) ⟨g1, fun _ => rfl⟩ ρ F W args.toList g2 (by simpa using g3)
  rw [Array.toArray_toList] at hc
  refine hc.mono fun e W' h => ?_
  obtain ⟨v, x, ρ', F', H', rfl, rfl, hr, _, _, hfr⟩ := h
  have hx : x = .bool true := den_ext hr
  subst hx
  have hnw : ∀ (i : Nat) (b : Blk), H1[i]? = some b → b.writable = true → False := fun i b hb hw => by
    have := g4 b (by simpa using List.mem_of_getElem? hb)
    rw [this] at hw; cases hw
  have hb : Below W.heap.size W W' := ⟨hfr.os, hfr.tape, hfr.output, hfr.size, fun n hn => hfr.block n hn (fun i b hb hw => (hnw i b hb hw).elim)⟩
  exact ⟨_, rfl, post_law hl htb hres hall hsv hsp hW' hb⟩
end
def flatFs (P : Program) (rec : TypeId → Option (List Bool)) : List Field → Nat → Option (List Bool)
  | [], _ => some []
  | f :: fs, o => match rec f.type with
    | none => none
    | some a => bif Nat.beq f.offset o && Nat.beq (P.cellsOf f.type) a.length then match flatFs P rec fs (o + a.length) with
      | some b => some (a ++ b)
      | none => none
      else none
def flatK (P : Program) : Nat → TypeId → Option (List Bool)
  | 0, _ => none
  | n + 1, t => match P.underlying t with
    | some .bool => some [false]
    | some (.int .i64) => some [true]
    | some (.struct fs) => match flatFs P (flatK P n) fs.toList 0 with
      | some ks => bif Nat.beq (P.cellsOf t) ks.length then some ks else none
      | none => none
    | _ => none
def goodCell (b : Bool) (v : Option Value) : Prop := match b with
  | true => ∃ n, v = some (.int .i64 n) ∧ (Lit.int .i64 n).wf = true
  | false => ∃ c, v = some (.bool c)
section
variable {P : Program} {elT : ET} {H : Type} {enc : TypeId × Value → H} {W : World} {sp : Nat → Bool} {held : Bool}
theorem flatFs_good {rec : TypeId → Option (List Bool)} {base : Nat} {cs : List Value} (hrec : ∀ t ks fuel cs (x : DataW H × List MemPlace), rec t = some ks → DataW.trod enc P W base sp held fuel t cs = some x → cs.length = ks.length ∧ ∀ (i : Nat) (b : Bool), ks[i]? = some b → goodCell b cs[i]?) {n : Nat} :
    ∀ (fl : List Field) (o : Nat) (ks : List Bool), (∀ f ∈ fl, ∃ y, DataW.trod enc P W base sp held n f.type ((cs.drop f.offset).take (P.cellsOf f.type)) = some y) → flatFs P rec fl o = some ks → ∀ (i : Nat) (b : Bool), ks[i]? = some b → goodCell b cs[o + i]?
  | [], o, ks, _, h, i, b, hb => by simp only [flatFs, Option.some.injEq] at h; subst h; simp at hb
  | f :: fl, o, ks, hall, h, i, b, hb => by
    simp only [flatFs] at h
    split at h
    · cases h
    · rename_i a ha
      cases hc : (Nat.beq f.offset o && Nat.beq (P.cellsOf f.type) a.length) with
      | false => rw [hc] at h; cases h
      | true =>
        rw [hc] at h
        simp only [cond_true] at h
        simp only [Bool.and_eq_true] at hc
        have e1 := Nat.eq_of_beq_eq_true hc.1
        have e2 := Nat.eq_of_beq_eq_true hc.2
        split at h
        · rename_i b' hb'
          injection h with h
          subst h
          rcases Nat.lt_or_ge i a.length with hi | hi
          · rw [List.getElem?_append_left hi] at hb
            obtain ⟨y, hy⟩ := hall f (by simp)
            have hg := (hrec f.type a n _ y ha hy).2 i b hb
            rw [e1, e2, List.getElem?_take, if_pos hi, List.getElem?_drop] at hg
            exact hg
          · rw [List.getElem?_append_right hi] at hb
            have := flatFs_good hrec fl (o + a.length) b' (fun f hf => hall f (by simp [hf])) hb' (i - a.length) b hb
            rw [show o + a.length + (i - a.length) = o + i by omega] at this
            exact this
        · cases h
theorem flatK_good {base : Nat} : ∀ (n : Nat) (t : TypeId) (ks : List Bool) (fuel : Nat) (cs : List Value) (x : DataW H × List MemPlace), flatK P n t = some ks → DataW.trod enc P W base sp held fuel t cs = some x →
    cs.length = ks.length ∧ ∀ (i : Nat) (b : Bool), ks[i]? = some b → goodCell b cs[i]?
  | 0, t, ks, fuel, cs, x, h, _ => by cases h
  | n + 1, t, ks, fuel, cs, x, h, hx => by
    simp only [flatK] at h
    split at h
    · rename_i ht
      injection h with h; subst h
      obtain ⟨b, rfl, _⟩ := DataW.trod_bool ht hx
      refine ⟨rfl, fun i b' hb => ?_⟩
      cases i with
      | zero => simp at hb; subst hb; exact ⟨b, rfl⟩
      | succ i => simp at hb
    · rename_i ht
      injection h with h; subst h
      obtain ⟨m, rfl, _, hw⟩ := DataW.trod_int ht hx
      refine ⟨rfl, fun i b' hb => ?_⟩
      cases i with
      | zero => simp at hb; subst hb; exact ⟨m, rfl, hw⟩
      | succ i => simp at hb
    · rename_i fs ht
      split at h
      · rename_i ks' hks
        cases hc : Nat.beq (P.cellsOf t) ks'.length with
        | false => rw [hc] at h; cases h
        | true =>
          rw [hc] at h
          injection h with h; subst h
          obtain ⟨xs, m, _, _, hlen, hxs, hall⟩ := DataW.trod_struct ht hx
          refine ⟨by rw [hlen, Nat.eq_of_beq_eq_true hc], fun i b hb => ?_⟩
          have := flatFs_good (enc := enc) (W := W) (sp := sp) (held := held) (base := base) (cs := cs) (n := m) (fun t ks fuel cs x a b => flatK_good n t ks fuel cs x a b) fs.toList 0 ks' (fun f hf => by
            obtain ⟨k, hk⟩ := List.getElem?_of_mem hf
            rw [Array.getElem?_toList] at hk
            have h1 := hall k f hk
            have hi : k < fs.size := (Array.getElem?_eq_some_iff.1 hk).1
            rw [List.getElem?_eq_getElem (by omega)] at h1
            exact ⟨_, h1⟩) hks i b hb
          rwa [Nat.zero_add] at this
      · cases h
    · cases h
theorem elOK_int (ht : P.underlying (elT 0) = some (.int .i64)) (hc : P.cellsOf (elT 0) = 1) : ElOK P elT 0 := by
  refine ⟨hc, fun enc W base sp held fuel cs x h => ?_, fun W r b v e hv hcs ρ => ?_⟩
  · obtain ⟨n, rfl, _, hw⟩ := DataW.trod_int ht h
    refine ⟨n, rfl, fun k m hm => ?_⟩
    simp [elEnc, i64] at hm
    obtain ⟨rfl, rfl⟩ := hm
    exact hw
  · simp only [Value.okWide, ht, Cell.okWide] at hv
    have hcs' : v.cells.toList = [.int .i64 e] := hcs
    show some (Value.int .i64 e) = some v
    cases v <;> simp_all [Cell.ok, Value.cells]
theorem struct_value {tg : Nat} {e : El tg} {fs : Array Field} {W : World} {r : Reach} {b : Nat} {v : Value} (ht : P.underlying (elT tg) = some (.struct fs)) (hv : Value.okWide P W r b (elT tg) v) (hcs : v.cells.toList = elEnc tg e) (ρ : List Value) :
    (V.agg ((elEnc tg e).map .ext)).den ρ = some v := by
  obtain ⟨cs, rfl, _⟩ := okWide_struct ht hv
  simp only [Value.cells] at hcs
  simp only [V.den, denL_ext]
  rw [← hcs]
end
end Go.Rx
end

section
namespace Go.Rx
open Go.ChangeShapes Go.WideShapes
theorem elOK_ints {P : Program} {elT : ET} {fs : Array Field} {m : Nat} (ht : P.underlying (elT (m + 4)) = some (.struct fs)) (hc : P.cellsOf (elT (m + 4)) = m % 32 + 1)
    (hf : flatK P 6 (elT (m + 4)) = some (List.replicate (m % 32 + 1) true)) : ElOK P elT (m + 4) := by
  refine ⟨hc, fun enc W base sp held fuel cs x h => ?_, fun W r b v e hv hcs ρ => struct_value ht hv hcs ρ⟩
  obtain ⟨hlen, hg⟩ := flatK_good 6 (elT (m + 4)) _ fuel cs x hf h
  rw [List.length_replicate] at hlen
  have hI : ∀ i, i < m % 32 + 1 → ∃ n, cs[i]? = some (.int .i64 n) ∧ (Lit.int .i64 n).wf = true := fun i hi => hg i true (by rw [List.getElem?_replicate, if_pos hi])
  obtain ⟨N, hN⟩ := Deep.choose_lt hI
  have hget : ∀ i, i < m % 32 + 1 → ((List.range (m % 32 + 1)).map N).getD i 0 = N i := fun i hi => by simp [List.getD, hi]
  have hcs : cs = elEnc (m + 4) ((List.range (m % 32 + 1)).map N : List Int) := by
    show cs = (List.range (m % 32 + 1)).map fun i => i64 (((List.range (m % 32 + 1)).map N).getD i 0)
    apply List.ext_getElem?
    intro i
    rcases Nat.lt_or_ge i (m % 32 + 1) with hi | hi
    · rw [(hN i hi).1, List.getElem?_map, List.getElem?_range hi, Option.map_some, hget i hi]
    · rw [List.getElem?_eq_none (by omega), List.getElem?_eq_none (by simpa using hi)]
  refine ⟨_, hcs, fun k n hm => ?_⟩
  have hm' : Value.int k n ∈ cs := by rw [hcs]; exact hm
  obtain ⟨i, hi⟩ := List.getElem?_of_mem hm'
  have hil : i < m % 32 + 1 := by rw [← hlen]; exact (List.getElem?_eq_some_iff.1 hi).1
  obtain ⟨h1, h2⟩ := hN i hil
  rw [h1] at hi
  injection hi with hi
  injection hi with e1 e2
  subst e1; subst e2
  exact h2
end Go.Rx
end

section
namespace Go.Rx
open Go.Proofs
theorem yhp : SpecOK Tryz.prog elTT 5 (lawS [.el 14, .row 6, .el 0]) := spec_mono (fun args H K h => by
  obtain ⟨ha, hk⟩ := h
  obtain ⟨e0, _, rfl, hw0, l1, _, _, rfl, rfl, hw1, hn1, e2, _, rfl, hw2, rfl, rfl⟩ := ha
  show So (y42 (⟨List.getD (e0 : List Int) 0 0, List.getD (e0 : List Int) 1 0, List.getD (e0 : List Int) 2 0, List.getD (e0 : List Int) 3 0, List.getD (e0 : List Int) 4 0, List.getD (e0 : List Int) 5 0, List.getD (e0 : List Int) 6 0, List.getD (e0 : List Int) 7 0, List.getD (e0 : List Int) 8 0, List.getD (e0 : List Int) 9 0, List.getD (e0 : List Int) 10 0⟩ : yb) e2 l1) _
  exact So_eq (PagesBack_main _ _ _) (hk _)) yio
end Go.Rx
end
