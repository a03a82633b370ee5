/- What the row's text of this claim stands on, part 6: the symbolic executor, contracts of the program's functions, plain facts. No condition. -/
import Derived.WalkKit
import Derived.ProofKit
import Derived.OpenShut
import Derived.Carry
import Derived.Deep.Slices
import Derived.JoinedOf
import Derived.Test.YtoejhbeppjagnaaGreatK11pE
section
namespace Go.Rx
open Go.Proofs
theorem number_eq (b : Bool) : yl b = some (if b = true then 1 else 0) := by cases b <;> rfl
theorem acts3 {acts : List (List Int)} (n : Nat) (h : n < acts.length) : acts.getD n (List.replicate 3 0) = acts[n] := by simp [List.getD, h]
section
variable {c : yb} {w inn : List Int} {ls : Int → Int → List Int}
theorem same11 (h : RightC c) {nw : Nat} (v : VOK (layC c) nw w) (i : Inv11 (layC c) w inn ls) (a : yi) (at_ : Int) :
    ∃ r : Int × Int × Int × Int × List Int, y3u nw w (layC c) a at_ = some r ∧ y1c ⟨c⟩ a at_ w = some r ∧ r.2.2.2.2.length = w.length ∧ ∃ inn' ls', Inv11 (layC c) r.2.2.2.2 inn' ls' := by
  have hnw := v.len
  subst hnw
  have hn : (layC c).at_11 ≤ (w.length : Int) := v.all
  have grab : ∃ r : Int × Int × Int × Int × List Int, ((y0n w.length w (layC c) a.C).bind fun y0 => ((yl (Prod.fst (Prod.snd y0))).bind fun y1 => some (((Prod.fst y0), (y1), (0), (0), (Prod.snd (Prod.snd y0)))))) = some r ∧
      ((y3a ⟨c⟩ a.C w).bind fun y0 => ((yl (Prod.fst (Prod.snd y0))).bind fun y1 => some (((Prod.fst y0), (y1), (0), (0), (Prod.snd (Prod.snd y0)))))) = some r ∧ r.2.2.2.2.length = w.length ∧ ∃ inn' ls', Inv11 (layC c) r.2.2.2.2 inn' ls' := by
    obtain ⟨x, b, u, e1, s1⟩ := pGrab_eq v i a.C
    obtain ⟨x', b', u', e2, s2⟩ := rGrab_eq h v i a.C
    obtain ⟨rfl, rfl, rfl⟩ := s1.uniq s2
    have hi := s1.inv v.lay hn i
    rw [e1, e2, Option.bind_some, number_eq]
    exact ⟨_, rfl, rfl, hi⟩
  have ret : ∃ r : Int × Int × Int × Int × List Int, ((y2w w.length w (layC c) at_).bind fun y2 => ((yl (Prod.fst y2)).bind fun y3 => some (((y3), (0), (0), (0), (Prod.snd y2))))) = some r ∧
      ((y2u ⟨c⟩ at_ w).bind fun y2 => ((yl (Prod.fst y2)).bind fun y3 => some (((y3), (0), (0), (0), (Prod.snd y2))))) = some r ∧ r.2.2.2.2.length = w.length ∧ ∃ inn' ls', Inv11 (layC c) r.2.2.2.2 inn' ls' := by
    obtain ⟨b, u, e1, s1⟩ := pReturn_eq v i at_
    obtain ⟨b', u', e2, s2⟩ := rReturn_eq h v i at_
    obtain ⟨rfl, rfl⟩ := s1.uniq s2
    have hi := s1.inv v.lay hn i
    rw [e1, e2, Option.bind_some, number_eq]
    exact ⟨_, rfl, rfl, hi⟩
  have look : ∃ r : Int × Int × Int × Int × List Int, ((y1z w.length w (layC c) at_).bind fun y4 => ((yl (Prod.snd y4)).bind fun y5 => ((y2z w.length w (layC c) a.C).bind fun y6 => ((yl y6).bind fun y7 => ((y0l w.length w (layC c) a.C).bind fun y8 => some (((Prod.fst y4), (y5), (y7), (y8), (w)))))))) = some r ∧
      ((y1d ⟨c⟩ at_ w).bind fun y4 => ((yl (Prod.snd y4)).bind fun y5 => ((y2v ⟨c⟩ a.C w).bind fun y6 => ((yl y6).bind fun y7 => ((y3b ⟨c⟩ a.C w).bind fun y8 => some (((Prod.fst y4), (y5), (y7), (y8), (w)))))))) = some r ∧ r.2.2.2.2.length = w.length ∧ ∃ inn' ls', Inv11 (layC c) r.2.2.2.2 inn' ls' := by
    have e : y1z w.length w (layC c) at_ = y1d ⟨c⟩ at_ w := by
      rcases pTaken_eq v i at_ with ⟨p, q, m, j, t, e1⟩ | ⟨n1, e1⟩ <;> rcases rTaken_eq h v i at_ with ⟨p', q', m', j', t', _, e2⟩ | ⟨n2, e2⟩
      · have e3 : p = p' := t.page.trans t'.page.symm
        subst e3
        have e4 : q = q' := by have := t.kind; have := t'.kind; omega
        rw [e1, e2, e4]
      · exact (n2 _ _ _ _ t).elim
      · exact (n1 _ _ _ _ t').elim
      · rw [e1, e2]
    rw [e, pRoom_eq v i, pFree_eq v i, rRoom_eq h v i, rFree_eq h v i]
    have e0 : (layC c).c = c := rfl
    rw [e0]
    rcases rTaken_eq h v i at_ with ⟨p', q', m', j', t', _, e2⟩ | ⟨n2, e2⟩ <;> rw [e2] <;> simp only [Option.bind_some, number_eq] <;> exact ⟨_, rfl, rfl, rfl, _, _, i⟩
  unfold y3u y1c
  by_cases k0 : a.Kind = 0
  · rw [beq_iff_eq.2 k0]; simp only [cond_true]; exact grab
  rw [beq_eq_false_iff_ne.2 k0, cond_false, cond_false]
  by_cases k1 : a.Kind = 1
  · rw [beq_iff_eq.2 k1]; simp only [cond_true]; exact grab
  rw [beq_eq_false_iff_ne.2 k1, cond_false, cond_false]
  by_cases k2 : a.Kind = 2
  · rw [beq_iff_eq.2 k2]; simp only [cond_true]; exact ret
  rw [beq_eq_false_iff_ne.2 k2, cond_false, cond_false]
  by_cases k3 : a.Kind = 3
  · rw [beq_iff_eq.2 k3]; simp only [cond_true]; exact ret
  rw [beq_eq_false_iff_ne.2 k3]; simp only [cond_false]; exact look
end
theorem bat_eq (user : Int) (a : yi) {b : List Int} (hb : b.length ≤ 1048576) : ∃ x, y1k user a b = some x := by
  unfold y1k
  by_cases k : a.Kind = 2
  · rw [beq_iff_eq.2 k, cond_true]
    by_cases l : (b.length : Int) > 0
    · rw [decide_eq_true l, cond_true]
      have e1 : IntKind.wrap IntKind.u64 (b.length : Int) = (b.length : Int) := by rw [wrap_u64]; omega
      have e2 : 0 ≤ IntKind.wrap IntKind.u64 a.N := by rw [wrap_u64]; omega
      rw [e1]
      have e3 : (!((b.length : Int) == 0)) = true := by rw [beq_eq_false_iff_ne.2 (by omega)]; rfl
      rw [e3, cond_true, Int.tmod_eq_emod_of_nonneg e2]
      have h1 := Int.emod_nonneg (IntKind.wrap IntKind.u64 a.N) (b := (b.length : Int)) (by omega)
      have h2 := Int.emod_lt_of_pos (IntKind.wrap IntKind.u64 a.N) (b := (b.length : Int)) (by omega)
      generalize IntKind.wrap IntKind.u64 a.N % (b.length : Int) = r at *
      rw [wrap_id (by omega) (by omega), inR_int h1 h2, cond_true, offs_id h1, inR_int h1 h2, cond_true]
      exact ⟨_, rfl⟩
    · rw [decide_eq_false l, cond_false]; exact ⟨_, rfl⟩
  · rw [beq_eq_false_iff_ne.2 k, cond_false]; exact ⟨_, rfl⟩
theorem without_eq (a : Int) {b : List Int} (hb : b.length ≤ 1048576) : ∃ x, y0i a b = some x ∧ x.length ≤ b.length :=
  loopO_ind (step := fun s : Int × List Int => y6n a b s.1 s.2)
    (I := fun s => ∃ j : Nat, j ≤ b.length ∧ s.1 = j ∧ s.2.length ≤ j) (μ := fun s => b.length - s.1.toNat) (fun r => r.length ≤ b.length) (by
      rintro ⟨_, u⟩ ⟨j, hj, rfl, hu⟩
      simp only at hu ⊢
      simp only [y6n]
      by_cases cc : j < b.length
      · have ho : offs (j : Int) 0 = (j : Int) := rfl
        rw [decide_eq_true (show (j : Int) < (b.length : Int) by omega), cond_true, inR_nat cc, cond_true, ho, inR_nat cc, cond_true, wrap_succ (by omega)]
        cases (b.getD (j : Int).toNat 0 != a) with
        | true =>
          rw [cond_true, cond_true, cond_true, decide_eq_true (by omega), cond_true]
          exact .inl ⟨_, rfl, ⟨j + 1, cc, rfl, by simp; omega⟩, by simp only; omega⟩
        | false =>
          rw [cond_false]
          exact .inl ⟨_, rfl, ⟨j + 1, cc, rfl, by simp only; omega⟩, by simp only; omega⟩
      · rw [decide_eq_false (by omega), cond_false]
        exact .inr ⟨_, rfl, by omega⟩) (0, []) ⟨0, by omega, rfl, by simp⟩
end Go.Rx
end

noncomputable section
namespace Go.Rx
open Go.Proofs
set_option maxRecDepth 100000
set_option maxHeartbeats 4000000
def yc1 (m_ : Nat → (List Int) → ya → Int → Int → Int → Int → Int → Int → (List (List Int)) → Option ((List Int) × Int × Int × Int × Int)) (args : List V) (H : Heap) (K : V → Heap → Prop) : Prop :=
  aC args fun a0 r => aC r fun a1 r => aN r <| aRow 0 a0 <| aFn 11 a1 fun cs => aC cs fun p0 r => aC r fun p1 r => aC r fun p2 r => aC r fun p3 r => aC r fun p4 r => aN r <| aPtr 1 p0 <| aPtr 2 p1 <| aPtr 3 p2 <| aPtr 4 p3 <| aPtr 5 p4 <| aC H fun b6 r => aC r fun b1 r => aC r fun b2 r => aC r fun b3 r => aC r fun b4 r => aC r fun b5 r => aC r fun b7 r => aN r <| bRow 0 true b6 fun (ws : List Int) => bCells b1 fun U c1 => yy c1 fun l2 => bCells b2 fun U2 c2 => aC c2 fun d2_0 r => aRow 6 d2_0 <| aN r <| bCells b3 fun U3 c3 => aC c3 fun d3_0 r => aInt d3_0 fun iv => aN r <| bCells b4 fun U4 c4 => aC c4 fun d4_0 r => aInt d4_0 fun atv => aN r <| bCells b5 fun U5 c5 => aC c5 fun d5_0 r => aInt d5_0 fun x_0 => aC r fun d5_1 r => aInt d5_1 fun x_1 => aC r fun d5_2 r => aInt d5_2 fun x_2 => aC r fun d5_3 r => aInt d5_3 fun x_3 => aN r <| bRow 6 true b7 fun (acts : List (List Int)) => Req (Nat.ble ws.length 1048576) (So (m_ ws.length ws l2 iv atv x_0 x_1 x_2 x_3 acts) fun x => ∀ nd : List Pr, K (.tup [.row 7, .row 8, vi 0]) [.row 0 ws true, .cells U (yd l2), .cells U2 [.row 6], .cells U3 [vi iv], .cells U4 [vi atv], .cells U5 [vi x.2.1, vi x.2.2.1, vi x.2.2.2.1, vi x.2.2.2.2], .row 6 acts true, .row 0 x.1 false, .row 2 nd false])
def yhq (m_ : Nat → (List Int) → ya → Int → Int → Int → Int → Int → Int → (List (List Int)) → Option ((List Int) × Int × Int × Int × Int)) : Spec := ⟨yc1 m_, (true : Bool)⟩
def cfgDo_law11_PagesPlays_1 (m_ : Nat → (List Int) → ya → Int → Int → Int → Int → Int → Int → (List (List Int)) → Option ((List Int) × Int × Int × Int × Int)) : Cfg := cfgDo 11 (ycp m_) [(0, none), (7, none), (10, none), (31, none), (32, none), (33, none)]
def yc8 (m_ : Y11) (args : List V) (H : Heap) (K : V → Heap → Prop) : Prop :=
  aC args fun a0 r => aC r fun a1 r => aN r <| aRow 0 a0 <| aFn 35 a1 fun cs => aC cs fun p0 r => aC r fun p1 r => aN r <| aPtr 1 p0 <| aPtr 2 p1 <| aC H fun b3 r => aC r fun b1 r => aC r fun b2 r => aN r <| bRow 0 true b3 fun (ws : List Int) => bCells b1 fun U c1 => yy c1 fun l2 => bCells b2 fun U2 c2 => aC c2 fun d2_0 r => aInt d2_0 fun a_0 => aC r fun d2_1 r => aInt d2_1 fun a_1 => aC r fun d2_2 r => aInt d2_2 fun a_2 => aC r fun d2_3 r => aInt d2_3 fun a_3 => aN r <| Req (Nat.ble ws.length 1048576) (So (m_ ws.length ws l2 a_0 a_1 a_2 a_3) fun x => ∀ nd : List Pr, K (.tup [.row 3, .row 4, vi 0]) [.row 0 ws true, .cells U (yd l2), .cells U2 [vi x.2.1, vi x.2.2.1, vi x.2.2.2.1, vi x.2.2.2.2], .row 0 x.1 false, .row 2 nd false])
def yio (m_ : Y11) : Spec := ⟨yc8 m_, (true : Bool)⟩
def cfgDo_law11_lives_1 (m_ : Y11) : Cfg := cfgDo 35 (yc2 m_) [(0, none), (7, none), (10, none), (31, none), (32, none), (33, none)]
theorem ymz (m_ : Nat → (List Int) → ya → Int → Int → Int → Int → Int → Int → (List (List Int)) → Option ((List Int) × Int × Int × Int × Int)) (ws : List Int) (l2 : ya) (iv atv : Int) (x_0 x_1 : Int) (x_2 x_3 : Int) (acts : List (List Int)) (U U2 : TypeId) (U3 U4 U5 : TypeId) (K : V → Heap → Prop) : (exF (cfgDo_law11_PagesPlays_1 m_) Tryz.f10 [.row 0, .fn 11 [.ptr 1 0, .ptr 2 0, .ptr 3 0, .ptr 4 0, .ptr 5 0]] [.row 0 ws true, .cells U (yd l2), .cells U2 [.row 6], .cells U3 [vi iv], .cells U4 [vi atv], .cells U5 [vi x_0, vi x_1, vi x_2, vi x_3], .row 6 acts true] K) = (
    Req (decide (ws.length ≤ 1048576)) (∀ (y0 : Go.Value), ((ws = ws) ∧ ((1 ≤ 2) ∧ (So (m_ ws.length ws l2 iv atv x_0 x_1 x_2 x_3 acts) (fun (y1 : List Int × Int × Int × Int × Int) => ((y0 = y0) ∧ (∀ (y2 : Int → Option Int), (∀ (y3 : Nat), (∀ (y4 : List Pr), (∀ (y5 : List (List Int)), ((ViewOK ws y1.1 y2 y4 y5) → (Req (Nat.ble y5.length 1048576) (Req (decide (0 + ws.length ≤ 1048576)) (Loop (cfgDo_law11_PagesPlays_1 m_) (⟨54, 7⟩ : Cx) (at_ (bodyOf Tryz.f10) [1, 1, 1, 1, 1, 1, 0, 1, 0, 0]) (mkEnv [(0, .row 0), (7, .ptr 7 0), (10, .row 8), (31, .row 9), (32, vi (↑(List.length (List.map prOf y5)) : Int)), (33, vi 0)]) [.row 0 ws true, .cells U (yd l2), .cells U2 [.row 6], .cells U3 [vi iv], .cells U4 [vi atv], .cells U5 [vi y1.2.1, vi y1.2.2.1, vi y1.2.2.2.1, vi y1.2.2.2.2], .row 6 acts true, .cells 0 [.row 0, .mp 10, .row 11], .row 0 ws false, .row 2 (List.map prOf y5 : List Pr) false, .map y2 y3, .row 2 y4 false] (contK (cfgDo_law11_PagesPlays_1 m_) (⟨54, 7⟩ : Cx) (bodyOf Tryz.f10) [1, 1, 1, 1, 1, 1, 0, 1, 0] (retK (cfgDo_law11_PagesPlays_1 m_) Tryz.f10 7 K))))))))))))))))) := by kernel_rfl
theorem yqc (m_ : Nat → (List Int) → ya → Int → Int → Int → Int → Int → Int → (List (List Int)) → Option ((List Int) × Int × Int × Int × Int)) (ws : List Int) (l2 : ya) (iv atv : Int) (x_0 x_1 : Int) (x_2 x_3 : Int) (acts : List (List Int)) (U U2 : TypeId) (U3 U4 U5 : TypeId) (x : (List Int) × Int × Int × Int × Int) (now_ : List Int) (ps_ nd_ : List Pr) (mm_ : Int → Option Int) (mn_ : Nat) (len_ j_ : Int) (K : V → Heap → Prop) (J1 : Env → Heap → Prop) : (ex (cfgDo_law11_PagesPlays_1 m_) (⟨54, 7⟩ : Cx) (at_ (bodyOf Tryz.f10) [1, 1, 1, 1, 1, 1, 0, 1, 0, 0]) (mkEnv [(0, .row 0), (7, .ptr 7 0), (10, .row 8), (31, .row 9), (32, vi len_), (33, vi j_)]) [.row 0 ws true, .cells U (yd l2), .cells U2 [.row 6], .cells U3 [vi iv], .cells U4 [vi atv], .cells U5 [vi x.2.1, vi x.2.2.1, vi x.2.2.2.1, vi x.2.2.2.2], .row 6 acts true, .cells 0 [.row 0, .mp 10, .row 11], .row 0 now_ false, .row 2 ps_ false, .map mm_ mn_, .row 2 nd_ false] (roundK (cfgDo_law11_PagesPlays_1 m_) (⟨54, 7⟩ : Cx) (at_ (bodyOf Tryz.f10) [1, 1, 1, 1, 1, 1, 0, 1, 0, 0]) (contK (cfgDo_law11_PagesPlays_1 m_) (⟨54, 7⟩ : Cx) (bodyOf Tryz.f10) [1, 1, 1, 1, 1, 1, 0, 1, 0] (retK (cfgDo_law11_PagesPlays_1 m_) Tryz.f10 7 K)) J1)) = (
    br (decide (j_ < len_)) (Req (inR j_ ps_.length) (Req (inR (offs j_ 0) ps_.length) (br (decide (Pr.Addr (ps_.getD (offs j_ 0).toNat (Pr.mk 0 0)) ≥ (↑ws.length : Int))) (K (.tup [.row 7, .row 8, vi 3]) [.row 0 ws true, .cells U (yd l2), .cells U2 [.row 6], .cells U3 [vi iv], .cells U4 [vi atv], .cells U5 [vi x.2.1, vi x.2.2.1, vi x.2.2.2.1, vi x.2.2.2.2], .row 6 acts true, .row 0 ([] : List Int) false, .row 2 ([] : List Pr) false]) (Req (inR (Pr.Addr (ps_.getD (offs j_ 0).toNat (Pr.mk 0 0))) now_.length) (Req (inR (offs (Pr.Addr (ps_.getD (offs j_ 0).toNat (Pr.mk 0 0))) 0) now_.length) (J1 (mkEnv [(0, .row 0), (7, .ptr 7 0), (10, .row 8), (31, .row 9), (32, vi len_), (33, vi (IntKind.i64.wrap (j_ + 1)))]) [.row 0 ws true, .cells U (yd l2), .cells U2 [.row 6], .cells U3 [vi iv], .cells U4 [vi atv], .cells U5 [vi x.2.1, vi x.2.2.1, vi x.2.2.2.1, vi x.2.2.2.2], .row 6 acts true, .cells 0 [.row 0, .mp 10, .row 11], .row 0 (List.set now_ (Int.toNat (offs (Pr.Addr (ps_.getD (offs j_ 0).toNat (Pr.mk 0 0))) 0)) (Pr.Val (ps_.getD (offs j_ 0).toNat (Pr.mk 0 0))) : List Int) false, .row 2 ps_ false, .map mm_ mn_, .row 2 nd_ false])))))) (K (.tup [.row 7, .row 8, vi 0]) [.row 0 ws true, .cells U (yd l2), .cells U2 [.row 6], .cells U3 [vi iv], .cells U4 [vi atv], .cells U5 [vi x.2.1, vi x.2.2.1, vi x.2.2.2.1, vi x.2.2.2.2], .row 6 acts true, .row 0 now_ false, .row 2 nd_ false])) := by kernel_rfl
theorem yno (m_ : Y11) (ws : List Int) (l2 : ya) (a_0 a_1 : Int) (a_2 a_3 : Int) (U U2 : TypeId) (K : V → Heap → Prop) : (exF (cfgDo_law11_lives_1 m_) Tryz.f10 [.row 0, .fn 35 [.ptr 1 0, .ptr 2 0]] [.row 0 ws true, .cells U (yd l2), .cells U2 [vi a_0, vi a_1, vi a_2, vi a_3]] K) = (
    Req (decide (ws.length ≤ 1048576)) (∀ (y0 : Go.Value), ((ws = ws) ∧ ((1 ≤ 2) ∧ (So (m_ ws.length ws l2 a_0 a_1 a_2 a_3) (fun (y1 : List Int × Int × Int × Int × Int) => ((y0 = y0) ∧ (∀ (y2 : Int → Option Int), (∀ (y3 : Nat), (∀ (y4 : List Pr), (∀ (y5 : List (List Int)), ((ViewOK ws y1.1 y2 y4 y5) → (Req (Nat.ble y5.length 1048576) (Req (decide (0 + ws.length ≤ 1048576)) (Loop (cfgDo_law11_lives_1 m_) (⟨54, 3⟩ : Cx) (at_ (bodyOf Tryz.f10) [1, 1, 1, 1, 1, 1, 0, 1, 0, 0]) (mkEnv [(0, .row 0), (7, .ptr 3 0), (10, .row 4), (31, .row 5), (32, vi (↑(List.length (List.map prOf y5)) : Int)), (33, vi 0)]) [.row 0 ws true, .cells U (yd l2), .cells U2 [vi y1.2.1, vi y1.2.2.1, vi y1.2.2.2.1, vi y1.2.2.2.2], .cells 0 [.row 0, .mp 6, .row 7], .row 0 ws false, .row 2 (List.map prOf y5 : List Pr) false, .map y2 y3, .row 2 y4 false] (contK (cfgDo_law11_lives_1 m_) (⟨54, 3⟩ : Cx) (bodyOf Tryz.f10) [1, 1, 1, 1, 1, 1, 0, 1, 0] (retK (cfgDo_law11_lives_1 m_) Tryz.f10 3 K))))))))))))))))) := by kernel_rfl
theorem ym5 (m_ : Y11) (ws : List Int) (l2 : ya) (a_0 a_1 : Int) (a_2 a_3 : Int) (U U2 : TypeId) (x : (List Int) × Int × Int × Int × Int) (now_ : List Int) (ps_ nd_ : List Pr) (mm_ : Int → Option Int) (mn_ : Nat) (len_ j_ : Int) (K : V → Heap → Prop) (J1 : Env → Heap → Prop) : (ex (cfgDo_law11_lives_1 m_) (⟨54, 3⟩ : Cx) (at_ (bodyOf Tryz.f10) [1, 1, 1, 1, 1, 1, 0, 1, 0, 0]) (mkEnv [(0, .row 0), (7, .ptr 3 0), (10, .row 4), (31, .row 5), (32, vi len_), (33, vi j_)]) [.row 0 ws true, .cells U (yd l2), .cells U2 [vi x.2.1, vi x.2.2.1, vi x.2.2.2.1, vi x.2.2.2.2], .cells 0 [.row 0, .mp 6, .row 7], .row 0 now_ false, .row 2 ps_ false, .map mm_ mn_, .row 2 nd_ false] (roundK (cfgDo_law11_lives_1 m_) (⟨54, 3⟩ : Cx) (at_ (bodyOf Tryz.f10) [1, 1, 1, 1, 1, 1, 0, 1, 0, 0]) (contK (cfgDo_law11_lives_1 m_) (⟨54, 3⟩ : Cx) (bodyOf Tryz.f10) [1, 1, 1, 1, 1, 1, 0, 1, 0] (retK (cfgDo_law11_lives_1 m_) Tryz.f10 3 K)) J1)) = (
    br (decide (j_ < len_)) (Req (inR j_ ps_.length) (Req (inR (offs j_ 0) ps_.length) (br (decide (Pr.Addr (ps_.getD (offs j_ 0).toNat (Pr.mk 0 0)) ≥ (↑ws.length : Int))) (K (.tup [.row 3, .row 4, vi 3]) [.row 0 ws true, .cells U (yd l2), .cells U2 [vi x.2.1, vi x.2.2.1, vi x.2.2.2.1, vi x.2.2.2.2], .row 0 ([] : List Int) false, .row 2 ([] : List Pr) false]) (Req (inR (Pr.Addr (ps_.getD (offs j_ 0).toNat (Pr.mk 0 0))) now_.length) (Req (inR (offs (Pr.Addr (ps_.getD (offs j_ 0).toNat (Pr.mk 0 0))) 0) now_.length) (J1 (mkEnv [(0, .row 0), (7, .ptr 3 0), (10, .row 4), (31, .row 5), (32, vi len_), (33, vi (IntKind.i64.wrap (j_ + 1)))]) [.row 0 ws true, .cells U (yd l2), .cells U2 [vi x.2.1, vi x.2.2.1, vi x.2.2.2.1, vi x.2.2.2.2], .cells 0 [.row 0, .mp 6, .row 7], .row 0 (List.set now_ (Int.toNat (offs (Pr.Addr (ps_.getD (offs j_ 0).toNat (Pr.mk 0 0))) 0)) (Pr.Val (ps_.getD (offs j_ 0).toNat (Pr.mk 0 0))) : List Int) false, .row 2 ps_ false, .map mm_ mn_, .row 2 nd_ false])))))) (K (.tup [.row 3, .row 4, vi 0]) [.row 0 ws true, .cells U (yd l2), .cells U2 [vi x.2.1, vi x.2.2.1, vi x.2.2.2.1, vi x.2.2.2.2], .row 0 now_ false, .row 2 nd_ false])) := by kernel_rfl
attribute [local irreducible] Loop ex exF contK roundK retK at_ bodyOf mkEnv
theorem okdo_law11_PagesPlays_1 {m_ : Nat → (List Int) → ya → Int → Int → Int → Int → Int → Int → (List (List Int)) → Option ((List Int) × Int × Int × Int × Int)} (hm : SpecOK Tryz.prog elTT 11 (ycp m_)) : SpecOK Tryz.prog elTT 10 (yhq m_) := by
  refine spec_of_exF (cfg := cfgDo_law11_PagesPlays_1 m_) (yg rfl rfl rfl) (sigDo_ok hm) (fn := Tryz.f10) (by kernel_rfl) (by kernel_rfl) (by kernel_rfl) ?_
  intro args H K h
  change yc1 m_ args H K at h
  unfold yc1 at h
  replace h := aC_el h
  obtain ⟨a0, _, rfl, h⟩ := h
  replace h := aC_el h
  obtain ⟨a1, _, rfl, h⟩ := h
  replace h := aN_el h
  obtain ⟨rfl, h⟩ := h
  replace h := aRow_el h
  obtain ⟨rfl, h⟩ := h
  replace h := aFn_el h
  obtain ⟨cs, rfl, h⟩ := h
  replace h := aC_el h
  obtain ⟨p0, _, rfl, h⟩ := h
  replace h := aC_el h
  obtain ⟨p1, _, rfl, h⟩ := h
  replace h := aC_el h
  obtain ⟨p2, _, rfl, h⟩ := h
  replace h := aC_el h
  obtain ⟨p3, _, rfl, h⟩ := h
  replace h := aC_el h
  obtain ⟨p4, _, rfl, h⟩ := h
  replace h := aN_el h
  obtain ⟨rfl, h⟩ := h
  replace h := aPtr_el h
  obtain ⟨rfl, h⟩ := h
  replace h := aPtr_el h
  obtain ⟨rfl, h⟩ := h
  replace h := aPtr_el h
  obtain ⟨rfl, h⟩ := h
  replace h := aPtr_el h
  obtain ⟨rfl, h⟩ := h
  replace h := aPtr_el h
  obtain ⟨rfl, h⟩ := h
  replace h := aC_el h
  obtain ⟨b6, _, rfl, h⟩ := h
  replace h := aC_el h
  obtain ⟨b1, _, rfl, h⟩ := h
  replace h := aC_el h
  obtain ⟨b2, _, rfl, h⟩ := h
  replace h := aC_el h
  obtain ⟨b3, _, rfl, h⟩ := h
  replace h := aC_el h
  obtain ⟨b4, _, rfl, h⟩ := h
  replace h := aC_el h
  obtain ⟨b5, _, rfl, h⟩ := h
  replace h := aC_el h
  obtain ⟨b7, _, rfl, h⟩ := h
  replace h := aN_el h
  obtain ⟨rfl, h⟩ := h
  replace h := bRow_el h
  obtain ⟨(ws : List Int), rfl, h⟩ := h
  replace h := bCells_el h
  obtain ⟨U, c1, rfl, h⟩ := h
  replace h := y7c h
  obtain ⟨l2, rfl, h⟩ := h
  replace h := bCells_el h
  obtain ⟨U2, c2, rfl, h⟩ := h
  replace h := aC_el h
  obtain ⟨d2_0, _, rfl, h⟩ := h
  replace h := aRow_el h
  obtain ⟨rfl, h⟩ := h
  replace h := aN_el h
  obtain ⟨rfl, h⟩ := h
  replace h := bCells_el h
  obtain ⟨U3, c3, rfl, h⟩ := h
  replace h := aC_el h
  obtain ⟨d3_0, _, rfl, h⟩ := h
  replace h := aInt_el h
  obtain ⟨iv, rfl, h⟩ := h
  replace h := aN_el h
  obtain ⟨rfl, h⟩ := h
  replace h := bCells_el h
  obtain ⟨U4, c4, rfl, h⟩ := h
  replace h := aC_el h
  obtain ⟨d4_0, _, rfl, h⟩ := h
  replace h := aInt_el h
  obtain ⟨atv, rfl, h⟩ := h
  replace h := aN_el h
  obtain ⟨rfl, h⟩ := h
  replace h := bCells_el h
  obtain ⟨U5, c5, rfl, h⟩ := h
  replace h := aC_el h
  obtain ⟨d5_0, _, rfl, h⟩ := h
  replace h := aInt_el h
  obtain ⟨x_0, rfl, h⟩ := h
  replace h := aC_el h
  obtain ⟨d5_1, _, rfl, h⟩ := h
  replace h := aInt_el h
  obtain ⟨x_1, rfl, h⟩ := h
  replace h := aC_el h
  obtain ⟨d5_2, _, rfl, h⟩ := h
  replace h := aInt_el h
  obtain ⟨x_2, rfl, h⟩ := h
  replace h := aC_el h
  obtain ⟨d5_3, _, rfl, h⟩ := h
  replace h := aInt_el h
  obtain ⟨x_3, rfl, h⟩ := h
  replace h := aN_el h
  obtain ⟨rfl, h⟩ := h
  replace h := bRow_el h
  obtain ⟨(acts : List (List Int)), rfl, h⟩ := h
  replace h := Req_el h
  obtain ⟨hsm, h⟩ := h
  have hsm := Nat.le_of_ble_eq_true hsm
  refine Eq.mpr (ymz m_ ws l2 iv atv x_0 x_1 x_2 x_3 acts U U2 U3 U4 U5 K) (Req_intro (by simpa using hsm) fun y => ⟨rfl, by decide, ?_⟩)
  refine So_imp h fun x hk => ?_
  refine ⟨rfl, fun mm mn nd its hv => Req_intro (Nat.ble_eq_true_of_le (by have := view_its hv; omega)) (Req_intro (decide_eq_true (by omega)) ?_)⟩
  have hlen := view_its hv
  refine loop_ind (σ := Nat) (fun j => (mkEnv [(0, .row 0), (7, .ptr 7 0), (10, .row 8), (31, .row 9), (32, vi ((its.map prOf).length : Int)), (33, vi ((j : Nat) : Int))]))
    (fun j => [.row 0 ws true, .cells U (yd l2), .cells U2 [.row 6], .cells U3 [vi iv], .cells U4 [vi atv], .cells U5 [vi x.2.1, vi x.2.2.1, vi x.2.2.2.1, vi x.2.2.2.2], .row 6 acts true, .cells 0 [.row 0, .mp 10, .row 11], .row 0 (nowN ws its j) false, .row 2 (its.map prOf) false, .map mm mn, .row 2 nd false]) (fun j => j ≤ its.length) (fun j => its.length - j) ?_ 0 (Nat.zero_le _)
  intro j hj J hJ
  refine Eq.mpr (yqc m_ ws l2 iv atv x_0 x_1 x_2 x_3 acts U U2 U3 U4 U5 x (nowN ws its j) (its.map prOf) nd mm mn _ j K J) (br_intro (fun h1 => ?_) (fun h1 => ?_))
  · have h1 : j < its.length := by simpa using h1
    have h1' : j < (its.map prOf).length := by simpa using h1
    obtain ⟨p1, p2⟩ := pr_in hv h1
    have hnx := hJ (j + 1) h1 (by omega)
    simp only [offs_nat, inR_nat h1', Req_true, Int.toNat_natCast, wrap_succ (show j ≤ 4611686018427387904 by omega), prs_get h1]
    simp only [nowN] at hnx
    generalize prOf (its.getD j []) = p at *
    have hoff : offs p.Addr 0 = p.Addr := by
      have e : p.Addr = ((p.Addr.toNat : Nat) : Int) := by omega
      rw [e]; rfl
    have hin : inR p.Addr (nowN ws its j).length = true := by rw [nowN_len]; exact inR_int p1 p2
    refine br_false (decide_eq_false (by omega)) (Req_intro hin (Req_intro (by rw [hoff]; exact hin) ?_))
    rw [hoff]
    exact hnx
  · have h1 : j = its.length := by simp at h1; omega
    subst h1
    rw [nowN_all hv]
    exact hk nd
theorem okdo_law11_lives_1 {m_ : Nat → (List Int) → ya → Int → Int → Int → Int → Option ((List Int) × Int × Int × Int × Int)} (hm : SpecOK Tryz.prog elTT 35 (yc2 m_)) : SpecOK Tryz.prog elTT 10 (yio m_) := by
  refine spec_of_exF (cfg := cfgDo_law11_lives_1 m_) (yg rfl rfl rfl) (sigDo_ok hm) (fn := Tryz.f10) (by kernel_rfl) (by kernel_rfl) (by kernel_rfl) ?_
  intro args H K h
  change yc8 m_ args H K at h
  unfold yc8 at h
  replace h := aC_el h
  obtain ⟨a0, _, rfl, h⟩ := h
  replace h := aC_el h
  obtain ⟨a1, _, rfl, h⟩ := h
  replace h := aN_el h
  obtain ⟨rfl, h⟩ := h
  replace h := aRow_el h
  obtain ⟨rfl, h⟩ := h
  replace h := aFn_el h
  obtain ⟨cs, rfl, h⟩ := h
  replace h := aC_el h
  obtain ⟨p0, _, rfl, h⟩ := h
  replace h := aC_el h
  obtain ⟨p1, _, rfl, h⟩ := h
  replace h := aN_el h
  obtain ⟨rfl, h⟩ := h
  replace h := aPtr_el h
  obtain ⟨rfl, h⟩ := h
  replace h := aPtr_el h
  obtain ⟨rfl, h⟩ := h
  replace h := aC_el h
  obtain ⟨b3, _, rfl, h⟩ := h
  replace h := aC_el h
  obtain ⟨b1, _, rfl, h⟩ := h
  replace h := aC_el h
  obtain ⟨b2, _, rfl, h⟩ := h
  replace h := aN_el h
  obtain ⟨rfl, h⟩ := h
  replace h := bRow_el h
  obtain ⟨(ws : List Int), rfl, h⟩ := h
  replace h := bCells_el h
  obtain ⟨U, c1, rfl, h⟩ := h
  replace h := y7c h
  obtain ⟨l2, rfl, h⟩ := h
  replace h := bCells_el h
  obtain ⟨U2, c2, rfl, h⟩ := h
  replace h := aC_el h
  obtain ⟨d2_0, _, rfl, h⟩ := h
  replace h := aInt_el h
  obtain ⟨a_0, rfl, h⟩ := h
  replace h := aC_el h
  obtain ⟨d2_1, _, rfl, h⟩ := h
  replace h := aInt_el h
  obtain ⟨a_1, rfl, h⟩ := h
  replace h := aC_el h
  obtain ⟨d2_2, _, rfl, h⟩ := h
  replace h := aInt_el h
  obtain ⟨a_2, rfl, h⟩ := h
  replace h := aC_el h
  obtain ⟨d2_3, _, rfl, h⟩ := h
  replace h := aInt_el h
  obtain ⟨a_3, rfl, h⟩ := h
  replace h := aN_el h
  obtain ⟨rfl, h⟩ := h
  replace h := Req_el h
  obtain ⟨hsm, h⟩ := h
  have hsm := Nat.le_of_ble_eq_true hsm
  refine Eq.mpr (yno m_ ws l2 a_0 a_1 a_2 a_3 U U2 K) (Req_intro (by simpa using hsm) fun y => ⟨rfl, by decide, ?_⟩)
  refine So_imp h fun x hk => ?_
  refine ⟨rfl, fun mm mn nd its hv => Req_intro (Nat.ble_eq_true_of_le (by have := view_its hv; omega)) (Req_intro (decide_eq_true (by omega)) ?_)⟩
  have hlen := view_its hv
  refine loop_ind (σ := Nat) (fun j => (mkEnv [(0, .row 0), (7, .ptr 3 0), (10, .row 4), (31, .row 5), (32, vi ((its.map prOf).length : Int)), (33, vi ((j : Nat) : Int))]))
    (fun j => [.row 0 ws true, .cells U (yd l2), .cells U2 [vi x.2.1, vi x.2.2.1, vi x.2.2.2.1, vi x.2.2.2.2], .cells 0 [.row 0, .mp 6, .row 7], .row 0 (nowN ws its j) false, .row 2 (its.map prOf) false, .map mm mn, .row 2 nd false]) (fun j => j ≤ its.length) (fun j => its.length - j) ?_ 0 (Nat.zero_le _)
  intro j hj J hJ
  refine Eq.mpr (ym5 m_ ws l2 a_0 a_1 a_2 a_3 U U2 x (nowN ws its j) (its.map prOf) nd mm mn _ j K J) (br_intro (fun h1 => ?_) (fun h1 => ?_))
  · have h1 : j < its.length := by simpa using h1
    have h1' : j < (its.map prOf).length := by simpa using h1
    obtain ⟨p1, p2⟩ := pr_in hv h1
    have hnx := hJ (j + 1) h1 (by omega)
    simp only [offs_nat, inR_nat h1', Req_true, Int.toNat_natCast, wrap_succ (show j ≤ 4611686018427387904 by omega), prs_get h1]
    simp only [nowN] at hnx
    generalize prOf (its.getD j []) = p at *
    have hoff : offs p.Addr 0 = p.Addr := by
      have e : p.Addr = ((p.Addr.toNat : Nat) : Int) := by omega
      rw [e]; rfl
    have hin : inR p.Addr (nowN ws its j).length = true := by rw [nowN_len]; exact inR_int p1 p2
    refine br_false (decide_eq_false (by omega)) (Req_intro hin (Req_intro (by rw [hoff]; exact hin) ?_))
    rw [hoff]
    exact hnx
  · have h1 : j = its.length := by simp at h1; omega
    subst h1
    rw [nowN_all hv]
    exact hk nd
end Go.Rx
end

noncomputable section
namespace Go.Rx
open Go.Proofs
set_option maxRecDepth 100000
set_option maxHeartbeats 4000000
def y9f (m_ : Option Bool) (args : List V) (H : Heap) (K : V → Heap → Prop) : Prop :=
  aN args <| aN H <| So (m_ ) fun x => K (vb x) []
def yhs (m_ : Option Bool) : Spec := ⟨y9f m_, (true : Bool)⟩
def yai (m_ : yb → (List (List Int)) → Option Bool) (args : List V) (H : Heap) (K : V → Heap → Prop) : Prop :=
  aC args fun a0 r => aC r fun a1 r => aN r <| aAgg a0 fun c0 => y5b c0 fun c => aRow 0 a1 <| aC H fun b0 r => aN r <| bRow 6 true b0 fun (acts : List (List Int)) => So (m_ c acts) fun x => K (vb x) [.row 6 acts true]
def ynh (m_ : yb → (List (List Int)) → Option Bool) : Spec := ⟨yai m_, (true : Bool)⟩
def yie (y2d : Y62) (y2r : Y66) (y53 : Y52) (y48 : Y11) (y57 : Y52) : Cfg := { cfgB with
  sigs := (sigC 32 (yd4 y2d) (sigC 33 (ycj y2r) (sigC 34 (yf1 y53) (sigC 10 (yio y48) (sigC 36 (yjh y57) sigN))))),
  plan := fun r => match r with | 6 => some (List.range 35, 0) | _ => none }
def y4g (y1l : Option Bool) (y1t : Y46) (y02 : Y1) (y1k : Y61) (y1m : Nat → (List Int) → ya → Int → Int → Int → Int → Int → Int → (List (List Int)) → Option ((List Int) × Int × Int × Int × Int)) (y1c : Y23) (y1a : Y59) (y0i : Y60) : Cfg := { cfgB with
  sigs := (sigC 6 (yhs y1l) (sigC 7 (yfl y1t) (sigC 9 (y63 y02) (sigC 8 (yeu y1k) (sigC 10 (yhq y1m) (sigC 13 (ye3 y1c) (sigC 14 (yg2 y1a) (sigC 15 (yh6 y0i) sigN)))))))),
  keep := fun r => match r with | 7 => some [(3, none), (5, none), (6, none), (7, some 0), (8, some 0), (9, some 0), (10, none)] | _ => none,
  planT := fun r => match r with | 9 => some ((chainT [0, 1, 3, 4, 5, 6] (.alt (chainT [2] (.alt (chainT [7, 8, 9] .fin) (chainT [8, 7, 9] .fin))) (chainT [8, 2, 7, 9] .fin))), 4113) | 12 => some ((chainT [0, 1, 2, 3, 4, 5, 6] (.alt (chainT [7, 8, 9] .fin) (chainT [8, 7, 9] .fin))), 131089) | _ => none,
  flag := fun d => Nat.beq d 11 || Nat.beq d 16 }
theorem yka (y2d : Y62) (y2r : Y66) (y53 : Y52) (y48 : Y11) (y57 : Y52) (K : V → Heap → Prop) : (exF (yie y2d y2r y53 y48 y57) Tryz.f6 [] [] K) = (
    So (y2d (yb.mk 0 0 0 0 0 0 0 0 0 0 0)) (fun (y0 : yb) => (So (y2r (yb.mk y0.Workers y0.CPUs 2 y0.Stripes y0.Tries y0.Wait y0.Clock y0.Private y0.Cache y0.Bin y0.Batch)) (fun (y1 : ya × Int) => (So (y53 y1.1) (fun (y2 : Int) => (Req (decide (0 ≤ y2 ∧ y2 ≤ y2 ∧ y2 ≤ 1048576)) (Req (Nat.ble (List.length (List.replicate (Int.toNat y2) (0 : Int))) (1048576 : Nat)) (So (y48 (List.length (List.replicate (Int.toNat y2) (0 : Int))) (List.replicate (Int.toNat y2) (0 : Int)) y1.1 (0 : Int) (0 : Int) (0 : Int) (0 : Int)) (fun (y3 : List Int × Int × Int × Int × Int) => (∀ (y4 : List Pr), (br (y1.2 == 0) (So (y57 y1.1) (fun (y5 : Int) => (br (y3.2.1 == y5) (br (y3.2.2.1 == IntKind.i64.wrap (y3.2.1 + 16)) (br (y3.2.2.2.1 == IntKind.i64.wrap (y3.2.1 + 32)) (K (vb (y3.2.2.2.2 == 1)) []) (K (vb false) [])) (K (vb false) [])) (K (vb false) [])))) (K (vb false) []))))))))))))) := by kernel_rfl
theorem yny (y1l : Option Bool) (y1t : Y46) (y02 : Y1) (y1k : Y61) (y1m : Nat → (List Int) → ya → Int → Int → Int → Int → Int → Int → (List (List Int)) → Option ((List Int) × Int × Int × Int × Int)) (y1c : Y23) (y1a : Y59) (y0i : Y60) (c : yb) (acts : List (List Int)) (c2 : ya) (c3 : T_assartref02_Layout) (w w2 w3 : List Int) (c4 : Int) (K : V → Heap → Prop) (J1 : Env → Heap → Prop) : (ex (y4g y1l y1t y02 y1k y1m y1c y1a y0i) (⟨121, 1⟩ : Cx) (at_ (bodyOf Tryz.f3) [1, 1, 1, 1, 1, 0, 1, 0, 0]) (mkEnv [(3, .ptr 1 0), (5, .ptr 2 0), (6, .ptr 3 0), (7, .row 4), (8, .row 5), (9, .row 6), (10, .ptr 7 0)]) [.row 6 acts true, .cells 24 [.row 0], .cells 28 (yd c2), .cells 30 (ye c3.C), .row 0 w false, .row 0 w2 false, .row 0 w3 false, .cells 3 [vi c4]] (roundK (y4g y1l y1t y02 y1k y1m y1c y1a y0i) (⟨121, 1⟩ : Cx) (at_ (bodyOf Tryz.f3) [1, 1, 1, 1, 1, 0, 1, 0, 0]) (contK (y4g y1l y1t y02 y1k y1m y1c y1a y0i) (⟨121, 1⟩ : Cx) (bodyOf Tryz.f3) [1, 1, 1, 1, 1, 0, 1, 0] (retK (y4g y1l y1t y02 y1k y1m y1c y1a y0i) Tryz.f3 1 K)) J1)) = (
    br (decide (c4 < (↑acts.length : Int))) (Req (inR c4 acts.length) (Req (inR (offs c4 0) acts.length) ((So (y02 c3) (fun (y0 : Int) => ((So (y1k y0 (yi.mk (List.getD (acts.getD (Int.toNat (offs c4 (0 : Nat))) (List.replicate (3 : Nat) (0 : Int))) (0 : Nat) (0 : Int)) (List.getD (acts.getD (Int.toNat (offs c4 (0 : Nat))) (List.replicate (3 : Nat) (0 : Int))) (1 : Nat) (0 : Int)) (List.getD (acts.getD (Int.toNat (offs c4 (0 : Nat))) (List.replicate (3 : Nat) (0 : Int))) (2 : Nat) (0 : Int))) w3) (fun (y1 : Int) => (Req (Nat.ble w.length 1048576) (So (y1m w.length w c2 c4 y1 0 0 0 0 acts) (fun (y2 : List Int × Int × Int × Int × Int) => (∀ (y3 : List Pr), (Req (inR c4 acts.length) (Req (inR (offs c4 0) acts.length) ((So (y1c c3 (yi.mk (List.getD (acts.getD (Int.toNat (offs c4 (0 : Nat))) (List.replicate (3 : Nat) (0 : Int))) (0 : Nat) (0 : Int)) (List.getD (acts.getD (Int.toNat (offs c4 (0 : Nat))) (List.replicate (3 : Nat) (0 : Int))) (1 : Nat) (0 : Int)) (List.getD (acts.getD (Int.toNat (offs c4 (0 : Nat))) (List.replicate (3 : Nat) (0 : Int))) (2 : Nat) (0 : Int))) y1 w2) (fun (y4 : Int × Int × Int × Int × List Int) => (br (!(y2.2.1 == y4.1 && (y2.2.2.1 == y4.2.1 && (y2.2.2.2.1 == y4.2.2.1 && (y2.2.2.2.2 == y4.2.2.2.1 && true))))) (K (vb false) [.row 6 acts true]) (So (y1a y2.1 y4.2.2.2.2) (fun (y5 : Bool) => (br (!y5) (K (vb false) [.row 6 acts true]) (Req (inR c4 acts.length) (Req (inR (offs c4 0) acts.length) (br (decide (List.getD (acts.getD (Int.toNat (offs c4 (0 : Nat))) (List.replicate (3 : Nat) (0 : Int))) (0 : Nat) (0 : Int) ≥ (0 : Int))) (Req (inR c4 acts.length) (Req (inR (offs c4 0) acts.length) (br (decide (List.getD (acts.getD (Int.toNat (offs c4 (0 : Nat))) (List.replicate (3 : Nat) (0 : Int))) (0 : Nat) (0 : Int) < (2 : Int))) (br (y4.2.1 == 1) (Req (decide (w3.length + 1 ≤ 1048576)) (J1 (mkEnv [(3, .ptr 1 0), (5, .ptr 2 0), (6, .ptr 3 0), (7, .row 4), (8, .row 5), (9, .row 6), (10, .ptr 7 0)]) [.row 6 acts true, .cells 24 [.row 0], .cells 28 (yd c2), .cells 30 (ye c3.C), .row 0 (y2.1 : List Int) false, .row 0 (y4.2.2.2.2 : List Int) false, .row 0 (w3 ++ [y4.1] : List Int) false, .cells 3 [vi (IntKind.i64.wrap (c4 + 1))]])) (Req (inR c4 acts.length) (Req (inR (offs c4 0) acts.length) (br (decide (List.getD (acts.getD (Int.toNat (offs c4 (0 : Nat))) (List.replicate (3 : Nat) (0 : Int))) (0 : Nat) (0 : Int) ≥ (2 : Int))) (Req (inR c4 acts.length) (Req (inR (offs c4 0) acts.length) (br (decide (List.getD (acts.getD (Int.toNat (offs c4 (0 : Nat))) (List.replicate (3 : Nat) (0 : Int))) (0 : Nat) (0 : Int) < (4 : Int))) (br (y4.1 == 1) (So (y0i y1 w3) (fun (y6 : List Int) => (J1 (mkEnv [(3, .ptr 1 0), (5, .ptr 2 0), (6, .ptr 3 0), (7, .row 4), (8, .row 5), (9, .row 6), (10, .ptr 7 0)]) [.row 6 acts true, .cells 24 [.row 0], .cells 28 (yd c2), .cells 30 (ye c3.C), .row 0 (y2.1 : List Int) false, .row 0 (y4.2.2.2.2 : List Int) false, .row 0 y6 false, .cells 3 [vi (IntKind.i64.wrap (c4 + 1))]]))) (J1 (mkEnv [(3, .ptr 1 0), (5, .ptr 2 0), (6, .ptr 3 0), (7, .row 4), (8, .row 5), (9, .row 6), (10, .ptr 7 0)]) [.row 6 acts true, .cells 24 [.row 0], .cells 28 (yd c2), .cells 30 (ye c3.C), .row 0 (y2.1 : List Int) false, .row 0 (y4.2.2.2.2 : List Int) false, .row 0 w3 false, .cells 3 [vi (IntKind.i64.wrap (c4 + 1))]])) (J1 (mkEnv [(3, .ptr 1 0), (5, .ptr 2 0), (6, .ptr 3 0), (7, .row 4), (8, .row 5), (9, .row 6), (10, .ptr 7 0)]) [.row 6 acts true, .cells 24 [.row 0], .cells 28 (yd c2), .cells 30 (ye c3.C), .row 0 (y2.1 : List Int) false, .row 0 (y4.2.2.2.2 : List Int) false, .row 0 w3 false, .cells 3 [vi (IntKind.i64.wrap (c4 + 1))]])))) (J1 (mkEnv [(3, .ptr 1 0), (5, .ptr 2 0), (6, .ptr 3 0), (7, .row 4), (8, .row 5), (9, .row 6), (10, .ptr 7 0)]) [.row 6 acts true, .cells 24 [.row 0], .cells 28 (yd c2), .cells 30 (ye c3.C), .row 0 (y2.1 : List Int) false, .row 0 (y4.2.2.2.2 : List Int) false, .row 0 w3 false, .cells 3 [vi (IntKind.i64.wrap (c4 + 1))]]))))) (Req (inR c4 acts.length) (Req (inR (offs c4 0) acts.length) (br (decide (List.getD (acts.getD (Int.toNat (offs c4 (0 : Nat))) (List.replicate (3 : Nat) (0 : Int))) (0 : Nat) (0 : Int) ≥ (2 : Int))) (Req (inR c4 acts.length) (Req (inR (offs c4 0) acts.length) (br (decide (List.getD (acts.getD (Int.toNat (offs c4 (0 : Nat))) (List.replicate (3 : Nat) (0 : Int))) (0 : Nat) (0 : Int) < (4 : Int))) (br (y4.1 == 1) (So (y0i y1 w3) (fun (y7 : List Int) => (J1 (mkEnv [(3, .ptr 1 0), (5, .ptr 2 0), (6, .ptr 3 0), (7, .row 4), (8, .row 5), (9, .row 6), (10, .ptr 7 0)]) [.row 6 acts true, .cells 24 [.row 0], .cells 28 (yd c2), .cells 30 (ye c3.C), .row 0 (y2.1 : List Int) false, .row 0 (y4.2.2.2.2 : List Int) false, .row 0 y7 false, .cells 3 [vi (IntKind.i64.wrap (c4 + 1))]]))) (J1 (mkEnv [(3, .ptr 1 0), (5, .ptr 2 0), (6, .ptr 3 0), (7, .row 4), (8, .row 5), (9, .row 6), (10, .ptr 7 0)]) [.row 6 acts true, .cells 24 [.row 0], .cells 28 (yd c2), .cells 30 (ye c3.C), .row 0 (y2.1 : List Int) false, .row 0 (y4.2.2.2.2 : List Int) false, .row 0 w3 false, .cells 3 [vi (IntKind.i64.wrap (c4 + 1))]])) (J1 (mkEnv [(3, .ptr 1 0), (5, .ptr 2 0), (6, .ptr 3 0), (7, .row 4), (8, .row 5), (9, .row 6), (10, .ptr 7 0)]) [.row 6 acts true, .cells 24 [.row 0], .cells 28 (yd c2), .cells 30 (ye c3.C), .row 0 (y2.1 : List Int) false, .row 0 (y4.2.2.2.2 : List Int) false, .row 0 w3 false, .cells 3 [vi (IntKind.i64.wrap (c4 + 1))]])))) (J1 (mkEnv [(3, .ptr 1 0), (5, .ptr 2 0), (6, .ptr 3 0), (7, .row 4), (8, .row 5), (9, .row 6), (10, .ptr 7 0)]) [.row 6 acts true, .cells 24 [.row 0], .cells 28 (yd c2), .cells 30 (ye c3.C), .row 0 (y2.1 : List Int) false, .row 0 (y4.2.2.2.2 : List Int) false, .row 0 w3 false, .cells 3 [vi (IntKind.i64.wrap (c4 + 1))]]))))))) (Req (inR c4 acts.length) (Req (inR (offs c4 0) acts.length) (br (decide (List.getD (acts.getD (Int.toNat (offs c4 (0 : Nat))) (List.replicate (3 : Nat) (0 : Int))) (0 : Nat) (0 : Int) ≥ (2 : Int))) (Req (inR c4 acts.length) (Req (inR (offs c4 0) acts.length) (br (decide (List.getD (acts.getD (Int.toNat (offs c4 (0 : Nat))) (List.replicate (3 : Nat) (0 : Int))) (0 : Nat) (0 : Int) < (4 : Int))) (br (y4.1 == 1) (So (y0i y1 w3) (fun (y8 : List Int) => (J1 (mkEnv [(3, .ptr 1 0), (5, .ptr 2 0), (6, .ptr 3 0), (7, .row 4), (8, .row 5), (9, .row 6), (10, .ptr 7 0)]) [.row 6 acts true, .cells 24 [.row 0], .cells 28 (yd c2), .cells 30 (ye c3.C), .row 0 (y2.1 : List Int) false, .row 0 (y4.2.2.2.2 : List Int) false, .row 0 y8 false, .cells 3 [vi (IntKind.i64.wrap (c4 + 1))]]))) (J1 (mkEnv [(3, .ptr 1 0), (5, .ptr 2 0), (6, .ptr 3 0), (7, .row 4), (8, .row 5), (9, .row 6), (10, .ptr 7 0)]) [.row 6 acts true, .cells 24 [.row 0], .cells 28 (yd c2), .cells 30 (ye c3.C), .row 0 (y2.1 : List Int) false, .row 0 (y4.2.2.2.2 : List Int) false, .row 0 w3 false, .cells 3 [vi (IntKind.i64.wrap (c4 + 1))]])) (J1 (mkEnv [(3, .ptr 1 0), (5, .ptr 2 0), (6, .ptr 3 0), (7, .row 4), (8, .row 5), (9, .row 6), (10, .ptr 7 0)]) [.row 6 acts true, .cells 24 [.row 0], .cells 28 (yd c2), .cells 30 (ye c3.C), .row 0 (y2.1 : List Int) false, .row 0 (y4.2.2.2.2 : List Int) false, .row 0 w3 false, .cells 3 [vi (IntKind.i64.wrap (c4 + 1))]])))) (J1 (mkEnv [(3, .ptr 1 0), (5, .ptr 2 0), (6, .ptr 3 0), (7, .row 4), (8, .row 5), (9, .row 6), (10, .ptr 7 0)]) [.row 6 acts true, .cells 24 [.row 0], .cells 28 (yd c2), .cells 30 (ye c3.C), .row 0 (y2.1 : List Int) false, .row 0 (y4.2.2.2.2 : List Int) false, .row 0 w3 false, .cells 3 [vi (IntKind.i64.wrap (c4 + 1))]]))))))))))))) ∧ (So (y1c c3 (yi.mk (List.getD (acts.getD (Int.toNat (offs c4 (0 : Nat))) (List.replicate (3 : Nat) (0 : Int))) (0 : Nat) (0 : Int)) (List.getD (acts.getD (Int.toNat (offs c4 (0 : Nat))) (List.replicate (3 : Nat) (0 : Int))) (1 : Nat) (0 : Int)) (List.getD (acts.getD (Int.toNat (offs c4 (0 : Nat))) (List.replicate (3 : Nat) (0 : Int))) (2 : Nat) (0 : Int))) y1 w2) (fun (y9 : Int × Int × Int × Int × List Int) => (br (!(y2.2.1 == y9.1 && (y2.2.2.1 == y9.2.1 && (y2.2.2.2.1 == y9.2.2.1 && (y2.2.2.2.2 == y9.2.2.2.1 && true))))) (K (vb false) [.row 6 acts true]) (So (y1a y2.1 y9.2.2.2.2) (fun (y10 : Bool) => (br (!y10) (K (vb false) [.row 6 acts true]) (Req (inR c4 acts.length) (Req (inR (offs c4 0) acts.length) (br (decide (List.getD (acts.getD (Int.toNat (offs c4 (0 : Nat))) (List.replicate (3 : Nat) (0 : Int))) (0 : Nat) (0 : Int) ≥ (0 : Int))) (Req (inR c4 acts.length) (Req (inR (offs c4 0) acts.length) (br (decide (List.getD (acts.getD (Int.toNat (offs c4 (0 : Nat))) (List.replicate (3 : Nat) (0 : Int))) (0 : Nat) (0 : Int) < (2 : Int))) (br (y9.2.1 == 1) (Req (decide (w3.length + 1 ≤ 1048576)) (J1 (mkEnv [(3, .ptr 1 0), (5, .ptr 2 0), (6, .ptr 3 0), (7, .row 4), (8, .row 5), (9, .row 6), (10, .ptr 7 0)]) [.row 6 acts true, .cells 24 [.row 0], .cells 28 (yd c2), .cells 30 (ye c3.C), .row 0 (y2.1 : List Int) false, .row 0 (y9.2.2.2.2 : List Int) false, .row 0 (w3 ++ [y9.1] : List Int) false, .cells 3 [vi (IntKind.i64.wrap (c4 + 1))]])) (Req (inR c4 acts.length) (Req (inR (offs c4 0) acts.length) (br (decide (List.getD (acts.getD (Int.toNat (offs c4 (0 : Nat))) (List.replicate (3 : Nat) (0 : Int))) (0 : Nat) (0 : Int) ≥ (2 : Int))) (Req (inR c4 acts.length) (Req (inR (offs c4 0) acts.length) (br (decide (List.getD (acts.getD (Int.toNat (offs c4 (0 : Nat))) (List.replicate (3 : Nat) (0 : Int))) (0 : Nat) (0 : Int) < (4 : Int))) (br (y9.1 == 1) (So (y0i y1 w3) (fun (y11 : List Int) => (J1 (mkEnv [(3, .ptr 1 0), (5, .ptr 2 0), (6, .ptr 3 0), (7, .row 4), (8, .row 5), (9, .row 6), (10, .ptr 7 0)]) [.row 6 acts true, .cells 24 [.row 0], .cells 28 (yd c2), .cells 30 (ye c3.C), .row 0 (y2.1 : List Int) false, .row 0 (y9.2.2.2.2 : List Int) false, .row 0 y11 false, .cells 3 [vi (IntKind.i64.wrap (c4 + 1))]]))) (J1 (mkEnv [(3, .ptr 1 0), (5, .ptr 2 0), (6, .ptr 3 0), (7, .row 4), (8, .row 5), (9, .row 6), (10, .ptr 7 0)]) [.row 6 acts true, .cells 24 [.row 0], .cells 28 (yd c2), .cells 30 (ye c3.C), .row 0 (y2.1 : List Int) false, .row 0 (y9.2.2.2.2 : List Int) false, .row 0 w3 false, .cells 3 [vi (IntKind.i64.wrap (c4 + 1))]])) (J1 (mkEnv [(3, .ptr 1 0), (5, .ptr 2 0), (6, .ptr 3 0), (7, .row 4), (8, .row 5), (9, .row 6), (10, .ptr 7 0)]) [.row 6 acts true, .cells 24 [.row 0], .cells 28 (yd c2), .cells 30 (ye c3.C), .row 0 (y2.1 : List Int) false, .row 0 (y9.2.2.2.2 : List Int) false, .row 0 w3 false, .cells 3 [vi (IntKind.i64.wrap (c4 + 1))]])))) (J1 (mkEnv [(3, .ptr 1 0), (5, .ptr 2 0), (6, .ptr 3 0), (7, .row 4), (8, .row 5), (9, .row 6), (10, .ptr 7 0)]) [.row 6 acts true, .cells 24 [.row 0], .cells 28 (yd c2), .cells 30 (ye c3.C), .row 0 (y2.1 : List Int) false, .row 0 (y9.2.2.2.2 : List Int) false, .row 0 w3 false, .cells 3 [vi (IntKind.i64.wrap (c4 + 1))]]))))) (Req (inR c4 acts.length) (Req (inR (offs c4 0) acts.length) (br (decide (List.getD (acts.getD (Int.toNat (offs c4 (0 : Nat))) (List.replicate (3 : Nat) (0 : Int))) (0 : Nat) (0 : Int) ≥ (2 : Int))) (Req (inR c4 acts.length) (Req (inR (offs c4 0) acts.length) (br (decide (List.getD (acts.getD (Int.toNat (offs c4 (0 : Nat))) (List.replicate (3 : Nat) (0 : Int))) (0 : Nat) (0 : Int) < (4 : Int))) (br (y9.1 == 1) (So (y0i y1 w3) (fun (y12 : List Int) => (J1 (mkEnv [(3, .ptr 1 0), (5, .ptr 2 0), (6, .ptr 3 0), (7, .row 4), (8, .row 5), (9, .row 6), (10, .ptr 7 0)]) [.row 6 acts true, .cells 24 [.row 0], .cells 28 (yd c2), .cells 30 (ye c3.C), .row 0 (y2.1 : List Int) false, .row 0 (y9.2.2.2.2 : List Int) false, .row 0 y12 false, .cells 3 [vi (IntKind.i64.wrap (c4 + 1))]]))) (J1 (mkEnv [(3, .ptr 1 0), (5, .ptr 2 0), (6, .ptr 3 0), (7, .row 4), (8, .row 5), (9, .row 6), (10, .ptr 7 0)]) [.row 6 acts true, .cells 24 [.row 0], .cells 28 (yd c2), .cells 30 (ye c3.C), .row 0 (y2.1 : List Int) false, .row 0 (y9.2.2.2.2 : List Int) false, .row 0 w3 false, .cells 3 [vi (IntKind.i64.wrap (c4 + 1))]])) (J1 (mkEnv [(3, .ptr 1 0), (5, .ptr 2 0), (6, .ptr 3 0), (7, .row 4), (8, .row 5), (9, .row 6), (10, .ptr 7 0)]) [.row 6 acts true, .cells 24 [.row 0], .cells 28 (yd c2), .cells 30 (ye c3.C), .row 0 (y2.1 : List Int) false, .row 0 (y9.2.2.2.2 : List Int) false, .row 0 w3 false, .cells 3 [vi (IntKind.i64.wrap (c4 + 1))]])))) (J1 (mkEnv [(3, .ptr 1 0), (5, .ptr 2 0), (6, .ptr 3 0), (7, .row 4), (8, .row 5), (9, .row 6), (10, .ptr 7 0)]) [.row 6 acts true, .cells 24 [.row 0], .cells 28 (yd c2), .cells 30 (ye c3.C), .row 0 (y2.1 : List Int) false, .row 0 (y9.2.2.2.2 : List Int) false, .row 0 w3 false, .cells 3 [vi (IntKind.i64.wrap (c4 + 1))]]))))))) (Req (inR c4 acts.length) (Req (inR (offs c4 0) acts.length) (br (decide (List.getD (acts.getD (Int.toNat (offs c4 (0 : Nat))) (List.replicate (3 : Nat) (0 : Int))) (0 : Nat) (0 : Int) ≥ (2 : Int))) (Req (inR c4 acts.length) (Req (inR (offs c4 0) acts.length) (br (decide (List.getD (acts.getD (Int.toNat (offs c4 (0 : Nat))) (List.replicate (3 : Nat) (0 : Int))) (0 : Nat) (0 : Int) < (4 : Int))) (br (y9.1 == 1) (So (y0i y1 w3) (fun (y13 : List Int) => (J1 (mkEnv [(3, .ptr 1 0), (5, .ptr 2 0), (6, .ptr 3 0), (7, .row 4), (8, .row 5), (9, .row 6), (10, .ptr 7 0)]) [.row 6 acts true, .cells 24 [.row 0], .cells 28 (yd c2), .cells 30 (ye c3.C), .row 0 (y2.1 : List Int) false, .row 0 (y9.2.2.2.2 : List Int) false, .row 0 y13 false, .cells 3 [vi (IntKind.i64.wrap (c4 + 1))]]))) (J1 (mkEnv [(3, .ptr 1 0), (5, .ptr 2 0), (6, .ptr 3 0), (7, .row 4), (8, .row 5), (9, .row 6), (10, .ptr 7 0)]) [.row 6 acts true, .cells 24 [.row 0], .cells 28 (yd c2), .cells 30 (ye c3.C), .row 0 (y2.1 : List Int) false, .row 0 (y9.2.2.2.2 : List Int) false, .row 0 w3 false, .cells 3 [vi (IntKind.i64.wrap (c4 + 1))]])) (J1 (mkEnv [(3, .ptr 1 0), (5, .ptr 2 0), (6, .ptr 3 0), (7, .row 4), (8, .row 5), (9, .row 6), (10, .ptr 7 0)]) [.row 6 acts true, .cells 24 [.row 0], .cells 28 (yd c2), .cells 30 (ye c3.C), .row 0 (y2.1 : List Int) false, .row 0 (y9.2.2.2.2 : List Int) false, .row 0 w3 false, .cells 3 [vi (IntKind.i64.wrap (c4 + 1))]])))) (J1 (mkEnv [(3, .ptr 1 0), (5, .ptr 2 0), (6, .ptr 3 0), (7, .row 4), (8, .row 5), (9, .row 6), (10, .ptr 7 0)]) [.row 6 acts true, .cells 24 [.row 0], .cells 28 (yd c2), .cells 30 (ye c3.C), .row 0 (y2.1 : List Int) false, .row 0 (y9.2.2.2.2 : List Int) false, .row 0 w3 false, .cells 3 [vi (IntKind.i64.wrap (c4 + 1))]])))))))))))))))))))))) ∧ (So (y1k y0 (yi.mk (List.getD (acts.getD (Int.toNat (offs c4 (0 : Nat))) (List.replicate (3 : Nat) (0 : Int))) (0 : Nat) (0 : Int)) (List.getD (acts.getD (Int.toNat (offs c4 (0 : Nat))) (List.replicate (3 : Nat) (0 : Int))) (1 : Nat) (0 : Int)) (List.getD (acts.getD (Int.toNat (offs c4 (0 : Nat))) (List.replicate (3 : Nat) (0 : Int))) (2 : Nat) (0 : Int))) w3) (fun (y14 : Int) => (Req (Nat.ble w.length 1048576) (So (y1m w.length w c2 c4 y14 0 0 0 0 acts) (fun (y15 : List Int × Int × Int × Int × Int) => (∀ (y16 : List Pr), (Req (inR c4 acts.length) (Req (inR (offs c4 0) acts.length) ((So (y1c c3 (yi.mk (List.getD (acts.getD (Int.toNat (offs c4 (0 : Nat))) (List.replicate (3 : Nat) (0 : Int))) (0 : Nat) (0 : Int)) (List.getD (acts.getD (Int.toNat (offs c4 (0 : Nat))) (List.replicate (3 : Nat) (0 : Int))) (1 : Nat) (0 : Int)) (List.getD (acts.getD (Int.toNat (offs c4 (0 : Nat))) (List.replicate (3 : Nat) (0 : Int))) (2 : Nat) (0 : Int))) y14 w2) (fun (y17 : Int × Int × Int × Int × List Int) => (br (!(y15.2.1 == y17.1 && (y15.2.2.1 == y17.2.1 && (y15.2.2.2.1 == y17.2.2.1 && (y15.2.2.2.2 == y17.2.2.2.1 && true))))) (K (vb false) [.row 6 acts true]) (So (y1a y15.1 y17.2.2.2.2) (fun (y18 : Bool) => (br (!y18) (K (vb false) [.row 6 acts true]) (Req (inR c4 acts.length) (Req (inR (offs c4 0) acts.length) (br (decide (List.getD (acts.getD (Int.toNat (offs c4 (0 : Nat))) (List.replicate (3 : Nat) (0 : Int))) (0 : Nat) (0 : Int) ≥ (0 : Int))) (Req (inR c4 acts.length) (Req (inR (offs c4 0) acts.length) (br (decide (List.getD (acts.getD (Int.toNat (offs c4 (0 : Nat))) (List.replicate (3 : Nat) (0 : Int))) (0 : Nat) (0 : Int) < (2 : Int))) (br (y17.2.1 == 1) (Req (decide (w3.length + 1 ≤ 1048576)) (J1 (mkEnv [(3, .ptr 1 0), (5, .ptr 2 0), (6, .ptr 3 0), (7, .row 4), (8, .row 5), (9, .row 6), (10, .ptr 7 0)]) [.row 6 acts true, .cells 24 [.row 0], .cells 28 (yd c2), .cells 30 (ye c3.C), .row 0 (y15.1 : List Int) false, .row 0 (y17.2.2.2.2 : List Int) false, .row 0 (w3 ++ [y17.1] : List Int) false, .cells 3 [vi (IntKind.i64.wrap (c4 + 1))]])) (Req (inR c4 acts.length) (Req (inR (offs c4 0) acts.length) (br (decide (List.getD (acts.getD (Int.toNat (offs c4 (0 : Nat))) (List.replicate (3 : Nat) (0 : Int))) (0 : Nat) (0 : Int) ≥ (2 : Int))) (Req (inR c4 acts.length) (Req (inR (offs c4 0) acts.length) (br (decide (List.getD (acts.getD (Int.toNat (offs c4 (0 : Nat))) (List.replicate (3 : Nat) (0 : Int))) (0 : Nat) (0 : Int) < (4 : Int))) (br (y17.1 == 1) (So (y0i y14 w3) (fun (y19 : List Int) => (J1 (mkEnv [(3, .ptr 1 0), (5, .ptr 2 0), (6, .ptr 3 0), (7, .row 4), (8, .row 5), (9, .row 6), (10, .ptr 7 0)]) [.row 6 acts true, .cells 24 [.row 0], .cells 28 (yd c2), .cells 30 (ye c3.C), .row 0 (y15.1 : List Int) false, .row 0 (y17.2.2.2.2 : List Int) false, .row 0 y19 false, .cells 3 [vi (IntKind.i64.wrap (c4 + 1))]]))) (J1 (mkEnv [(3, .ptr 1 0), (5, .ptr 2 0), (6, .ptr 3 0), (7, .row 4), (8, .row 5), (9, .row 6), (10, .ptr 7 0)]) [.row 6 acts true, .cells 24 [.row 0], .cells 28 (yd c2), .cells 30 (ye c3.C), .row 0 (y15.1 : List Int) false, .row 0 (y17.2.2.2.2 : List Int) false, .row 0 w3 false, .cells 3 [vi (IntKind.i64.wrap (c4 + 1))]])) (J1 (mkEnv [(3, .ptr 1 0), (5, .ptr 2 0), (6, .ptr 3 0), (7, .row 4), (8, .row 5), (9, .row 6), (10, .ptr 7 0)]) [.row 6 acts true, .cells 24 [.row 0], .cells 28 (yd c2), .cells 30 (ye c3.C), .row 0 (y15.1 : List Int) false, .row 0 (y17.2.2.2.2 : List Int) false, .row 0 w3 false, .cells 3 [vi (IntKind.i64.wrap (c4 + 1))]])))) (J1 (mkEnv [(3, .ptr 1 0), (5, .ptr 2 0), (6, .ptr 3 0), (7, .row 4), (8, .row 5), (9, .row 6), (10, .ptr 7 0)]) [.row 6 acts true, .cells 24 [.row 0], .cells 28 (yd c2), .cells 30 (ye c3.C), .row 0 (y15.1 : List Int) false, .row 0 (y17.2.2.2.2 : List Int) false, .row 0 w3 false, .cells 3 [vi (IntKind.i64.wrap (c4 + 1))]]))))) (Req (inR c4 acts.length) (Req (inR (offs c4 0) acts.length) (br (decide (List.getD (acts.getD (Int.toNat (offs c4 (0 : Nat))) (List.replicate (3 : Nat) (0 : Int))) (0 : Nat) (0 : Int) ≥ (2 : Int))) (Req (inR c4 acts.length) (Req (inR (offs c4 0) acts.length) (br (decide (List.getD (acts.getD (Int.toNat (offs c4 (0 : Nat))) (List.replicate (3 : Nat) (0 : Int))) (0 : Nat) (0 : Int) < (4 : Int))) (br (y17.1 == 1) (So (y0i y14 w3) (fun (y20 : List Int) => (J1 (mkEnv [(3, .ptr 1 0), (5, .ptr 2 0), (6, .ptr 3 0), (7, .row 4), (8, .row 5), (9, .row 6), (10, .ptr 7 0)]) [.row 6 acts true, .cells 24 [.row 0], .cells 28 (yd c2), .cells 30 (ye c3.C), .row 0 (y15.1 : List Int) false, .row 0 (y17.2.2.2.2 : List Int) false, .row 0 y20 false, .cells 3 [vi (IntKind.i64.wrap (c4 + 1))]]))) (J1 (mkEnv [(3, .ptr 1 0), (5, .ptr 2 0), (6, .ptr 3 0), (7, .row 4), (8, .row 5), (9, .row 6), (10, .ptr 7 0)]) [.row 6 acts true, .cells 24 [.row 0], .cells 28 (yd c2), .cells 30 (ye c3.C), .row 0 (y15.1 : List Int) false, .row 0 (y17.2.2.2.2 : List Int) false, .row 0 w3 false, .cells 3 [vi (IntKind.i64.wrap (c4 + 1))]])) (J1 (mkEnv [(3, .ptr 1 0), (5, .ptr 2 0), (6, .ptr 3 0), (7, .row 4), (8, .row 5), (9, .row 6), (10, .ptr 7 0)]) [.row 6 acts true, .cells 24 [.row 0], .cells 28 (yd c2), .cells 30 (ye c3.C), .row 0 (y15.1 : List Int) false, .row 0 (y17.2.2.2.2 : List Int) false, .row 0 w3 false, .cells 3 [vi (IntKind.i64.wrap (c4 + 1))]])))) (J1 (mkEnv [(3, .ptr 1 0), (5, .ptr 2 0), (6, .ptr 3 0), (7, .row 4), (8, .row 5), (9, .row 6), (10, .ptr 7 0)]) [.row 6 acts true, .cells 24 [.row 0], .cells 28 (yd c2), .cells 30 (ye c3.C), .row 0 (y15.1 : List Int) false, .row 0 (y17.2.2.2.2 : List Int) false, .row 0 w3 false, .cells 3 [vi (IntKind.i64.wrap (c4 + 1))]]))))))) (Req (inR c4 acts.length) (Req (inR (offs c4 0) acts.length) (br (decide (List.getD (acts.getD (Int.toNat (offs c4 (0 : Nat))) (List.replicate (3 : Nat) (0 : Int))) (0 : Nat) (0 : Int) ≥ (2 : Int))) (Req (inR c4 acts.length) (Req (inR (offs c4 0) acts.length) (br (decide (List.getD (acts.getD (Int.toNat (offs c4 (0 : Nat))) (List.replicate (3 : Nat) (0 : Int))) (0 : Nat) (0 : Int) < (4 : Int))) (br (y17.1 == 1) (So (y0i y14 w3) (fun (y21 : List Int) => (J1 (mkEnv [(3, .ptr 1 0), (5, .ptr 2 0), (6, .ptr 3 0), (7, .row 4), (8, .row 5), (9, .row 6), (10, .ptr 7 0)]) [.row 6 acts true, .cells 24 [.row 0], .cells 28 (yd c2), .cells 30 (ye c3.C), .row 0 (y15.1 : List Int) false, .row 0 (y17.2.2.2.2 : List Int) false, .row 0 y21 false, .cells 3 [vi (IntKind.i64.wrap (c4 + 1))]]))) (J1 (mkEnv [(3, .ptr 1 0), (5, .ptr 2 0), (6, .ptr 3 0), (7, .row 4), (8, .row 5), (9, .row 6), (10, .ptr 7 0)]) [.row 6 acts true, .cells 24 [.row 0], .cells 28 (yd c2), .cells 30 (ye c3.C), .row 0 (y15.1 : List Int) false, .row 0 (y17.2.2.2.2 : List Int) false, .row 0 w3 false, .cells 3 [vi (IntKind.i64.wrap (c4 + 1))]])) (J1 (mkEnv [(3, .ptr 1 0), (5, .ptr 2 0), (6, .ptr 3 0), (7, .row 4), (8, .row 5), (9, .row 6), (10, .ptr 7 0)]) [.row 6 acts true, .cells 24 [.row 0], .cells 28 (yd c2), .cells 30 (ye c3.C), .row 0 (y15.1 : List Int) false, .row 0 (y17.2.2.2.2 : List Int) false, .row 0 w3 false, .cells 3 [vi (IntKind.i64.wrap (c4 + 1))]])))) (J1 (mkEnv [(3, .ptr 1 0), (5, .ptr 2 0), (6, .ptr 3 0), (7, .row 4), (8, .row 5), (9, .row 6), (10, .ptr 7 0)]) [.row 6 acts true, .cells 24 [.row 0], .cells 28 (yd c2), .cells 30 (ye c3.C), .row 0 (y15.1 : List Int) false, .row 0 (y17.2.2.2.2 : List Int) false, .row 0 w3 false, .cells 3 [vi (IntKind.i64.wrap (c4 + 1))]]))))))))))))) ∧ (So (y1c c3 (yi.mk (List.getD (acts.getD (Int.toNat (offs c4 (0 : Nat))) (List.replicate (3 : Nat) (0 : Int))) (0 : Nat) (0 : Int)) (List.getD (acts.getD (Int.toNat (offs c4 (0 : Nat))) (List.replicate (3 : Nat) (0 : Int))) (1 : Nat) (0 : Int)) (List.getD (acts.getD (Int.toNat (offs c4 (0 : Nat))) (List.replicate (3 : Nat) (0 : Int))) (2 : Nat) (0 : Int))) y14 w2) (fun (y22 : Int × Int × Int × Int × List Int) => (br (!(y15.2.1 == y22.1 && (y15.2.2.1 == y22.2.1 && (y15.2.2.2.1 == y22.2.2.1 && (y15.2.2.2.2 == y22.2.2.2.1 && true))))) (K (vb false) [.row 6 acts true]) (So (y1a y15.1 y22.2.2.2.2) (fun (y23 : Bool) => (br (!y23) (K (vb false) [.row 6 acts true]) (Req (inR c4 acts.length) (Req (inR (offs c4 0) acts.length) (br (decide (List.getD (acts.getD (Int.toNat (offs c4 (0 : Nat))) (List.replicate (3 : Nat) (0 : Int))) (0 : Nat) (0 : Int) ≥ (0 : Int))) (Req (inR c4 acts.length) (Req (inR (offs c4 0) acts.length) (br (decide (List.getD (acts.getD (Int.toNat (offs c4 (0 : Nat))) (List.replicate (3 : Nat) (0 : Int))) (0 : Nat) (0 : Int) < (2 : Int))) (br (y22.2.1 == 1) (Req (decide (w3.length + 1 ≤ 1048576)) (J1 (mkEnv [(3, .ptr 1 0), (5, .ptr 2 0), (6, .ptr 3 0), (7, .row 4), (8, .row 5), (9, .row 6), (10, .ptr 7 0)]) [.row 6 acts true, .cells 24 [.row 0], .cells 28 (yd c2), .cells 30 (ye c3.C), .row 0 (y15.1 : List Int) false, .row 0 (y22.2.2.2.2 : List Int) false, .row 0 (w3 ++ [y22.1] : List Int) false, .cells 3 [vi (IntKind.i64.wrap (c4 + 1))]])) (Req (inR c4 acts.length) (Req (inR (offs c4 0) acts.length) (br (decide (List.getD (acts.getD (Int.toNat (offs c4 (0 : Nat))) (List.replicate (3 : Nat) (0 : Int))) (0 : Nat) (0 : Int) ≥ (2 : Int))) (Req (inR c4 acts.length) (Req (inR (offs c4 0) acts.length) (br (decide (List.getD (acts.getD (Int.toNat (offs c4 (0 : Nat))) (List.replicate (3 : Nat) (0 : Int))) (0 : Nat) (0 : Int) < (4 : Int))) (br (y22.1 == 1) (So (y0i y14 w3) (fun (y24 : List Int) => (J1 (mkEnv [(3, .ptr 1 0), (5, .ptr 2 0), (6, .ptr 3 0), (7, .row 4), (8, .row 5), (9, .row 6), (10, .ptr 7 0)]) [.row 6 acts true, .cells 24 [.row 0], .cells 28 (yd c2), .cells 30 (ye c3.C), .row 0 (y15.1 : List Int) false, .row 0 (y22.2.2.2.2 : List Int) false, .row 0 y24 false, .cells 3 [vi (IntKind.i64.wrap (c4 + 1))]]))) (J1 (mkEnv [(3, .ptr 1 0), (5, .ptr 2 0), (6, .ptr 3 0), (7, .row 4), (8, .row 5), (9, .row 6), (10, .ptr 7 0)]) [.row 6 acts true, .cells 24 [.row 0], .cells 28 (yd c2), .cells 30 (ye c3.C), .row 0 (y15.1 : List Int) false, .row 0 (y22.2.2.2.2 : List Int) false, .row 0 w3 false, .cells 3 [vi (IntKind.i64.wrap (c4 + 1))]])) (J1 (mkEnv [(3, .ptr 1 0), (5, .ptr 2 0), (6, .ptr 3 0), (7, .row 4), (8, .row 5), (9, .row 6), (10, .ptr 7 0)]) [.row 6 acts true, .cells 24 [.row 0], .cells 28 (yd c2), .cells 30 (ye c3.C), .row 0 (y15.1 : List Int) false, .row 0 (y22.2.2.2.2 : List Int) false, .row 0 w3 false, .cells 3 [vi (IntKind.i64.wrap (c4 + 1))]])))) (J1 (mkEnv [(3, .ptr 1 0), (5, .ptr 2 0), (6, .ptr 3 0), (7, .row 4), (8, .row 5), (9, .row 6), (10, .ptr 7 0)]) [.row 6 acts true, .cells 24 [.row 0], .cells 28 (yd c2), .cells 30 (ye c3.C), .row 0 (y15.1 : List Int) false, .row 0 (y22.2.2.2.2 : List Int) false, .row 0 w3 false, .cells 3 [vi (IntKind.i64.wrap (c4 + 1))]]))))) (Req (inR c4 acts.length) (Req (inR (offs c4 0) acts.length) (br (decide (List.getD (acts.getD (Int.toNat (offs c4 (0 : Nat))) (List.replicate (3 : Nat) (0 : Int))) (0 : Nat) (0 : Int) ≥ (2 : Int))) (Req (inR c4 acts.length) (Req (inR (offs c4 0) acts.length) (br (decide (List.getD (acts.getD (Int.toNat (offs c4 (0 : Nat))) (List.replicate (3 : Nat) (0 : Int))) (0 : Nat) (0 : Int) < (4 : Int))) (br (y22.1 == 1) (So (y0i y14 w3) (fun (y25 : List Int) => (J1 (mkEnv [(3, .ptr 1 0), (5, .ptr 2 0), (6, .ptr 3 0), (7, .row 4), (8, .row 5), (9, .row 6), (10, .ptr 7 0)]) [.row 6 acts true, .cells 24 [.row 0], .cells 28 (yd c2), .cells 30 (ye c3.C), .row 0 (y15.1 : List Int) false, .row 0 (y22.2.2.2.2 : List Int) false, .row 0 y25 false, .cells 3 [vi (IntKind.i64.wrap (c4 + 1))]]))) (J1 (mkEnv [(3, .ptr 1 0), (5, .ptr 2 0), (6, .ptr 3 0), (7, .row 4), (8, .row 5), (9, .row 6), (10, .ptr 7 0)]) [.row 6 acts true, .cells 24 [.row 0], .cells 28 (yd c2), .cells 30 (ye c3.C), .row 0 (y15.1 : List Int) false, .row 0 (y22.2.2.2.2 : List Int) false, .row 0 w3 false, .cells 3 [vi (IntKind.i64.wrap (c4 + 1))]])) (J1 (mkEnv [(3, .ptr 1 0), (5, .ptr 2 0), (6, .ptr 3 0), (7, .row 4), (8, .row 5), (9, .row 6), (10, .ptr 7 0)]) [.row 6 acts true, .cells 24 [.row 0], .cells 28 (yd c2), .cells 30 (ye c3.C), .row 0 (y15.1 : List Int) false, .row 0 (y22.2.2.2.2 : List Int) false, .row 0 w3 false, .cells 3 [vi (IntKind.i64.wrap (c4 + 1))]])))) (J1 (mkEnv [(3, .ptr 1 0), (5, .ptr 2 0), (6, .ptr 3 0), (7, .row 4), (8, .row 5), (9, .row 6), (10, .ptr 7 0)]) [.row 6 acts true, .cells 24 [.row 0], .cells 28 (yd c2), .cells 30 (ye c3.C), .row 0 (y15.1 : List Int) false, .row 0 (y22.2.2.2.2 : List Int) false, .row 0 w3 false, .cells 3 [vi (IntKind.i64.wrap (c4 + 1))]]))))))) (Req (inR c4 acts.length) (Req (inR (offs c4 0) acts.length) (br (decide (List.getD (acts.getD (Int.toNat (offs c4 (0 : Nat))) (List.replicate (3 : Nat) (0 : Int))) (0 : Nat) (0 : Int) ≥ (2 : Int))) (Req (inR c4 acts.length) (Req (inR (offs c4 0) acts.length) (br (decide (List.getD (acts.getD (Int.toNat (offs c4 (0 : Nat))) (List.replicate (3 : Nat) (0 : Int))) (0 : Nat) (0 : Int) < (4 : Int))) (br (y22.1 == 1) (So (y0i y14 w3) (fun (y26 : List Int) => (J1 (mkEnv [(3, .ptr 1 0), (5, .ptr 2 0), (6, .ptr 3 0), (7, .row 4), (8, .row 5), (9, .row 6), (10, .ptr 7 0)]) [.row 6 acts true, .cells 24 [.row 0], .cells 28 (yd c2), .cells 30 (ye c3.C), .row 0 (y15.1 : List Int) false, .row 0 (y22.2.2.2.2 : List Int) false, .row 0 y26 false, .cells 3 [vi (IntKind.i64.wrap (c4 + 1))]]))) (J1 (mkEnv [(3, .ptr 1 0), (5, .ptr 2 0), (6, .ptr 3 0), (7, .row 4), (8, .row 5), (9, .row 6), (10, .ptr 7 0)]) [.row 6 acts true, .cells 24 [.row 0], .cells 28 (yd c2), .cells 30 (ye c3.C), .row 0 (y15.1 : List Int) false, .row 0 (y22.2.2.2.2 : List Int) false, .row 0 w3 false, .cells 3 [vi (IntKind.i64.wrap (c4 + 1))]])) (J1 (mkEnv [(3, .ptr 1 0), (5, .ptr 2 0), (6, .ptr 3 0), (7, .row 4), (8, .row 5), (9, .row 6), (10, .ptr 7 0)]) [.row 6 acts true, .cells 24 [.row 0], .cells 28 (yd c2), .cells 30 (ye c3.C), .row 0 (y15.1 : List Int) false, .row 0 (y22.2.2.2.2 : List Int) false, .row 0 w3 false, .cells 3 [vi (IntKind.i64.wrap (c4 + 1))]])))) (J1 (mkEnv [(3, .ptr 1 0), (5, .ptr 2 0), (6, .ptr 3 0), (7, .row 4), (8, .row 5), (9, .row 6), (10, .ptr 7 0)]) [.row 6 acts true, .cells 24 [.row 0], .cells 28 (yd c2), .cells 30 (ye c3.C), .row 0 (y15.1 : List Int) false, .row 0 (y22.2.2.2.2 : List Int) false, .row 0 w3 false, .cells 3 [vi (IntKind.i64.wrap (c4 + 1))]]))))))))))))))))))))))))) ∧ (So (y02 c3) (fun (y27 : Int) => (So (y1k y27 (yi.mk (List.getD (acts.getD (Int.toNat (offs c4 (0 : Nat))) (List.replicate (3 : Nat) (0 : Int))) (0 : Nat) (0 : Int)) (List.getD (acts.getD (Int.toNat (offs c4 (0 : Nat))) (List.replicate (3 : Nat) (0 : Int))) (1 : Nat) (0 : Int)) (List.getD (acts.getD (Int.toNat (offs c4 (0 : Nat))) (List.replicate (3 : Nat) (0 : Int))) (2 : Nat) (0 : Int))) w3) (fun (y28 : Int) => (Req (Nat.ble w.length 1048576) (So (y1m w.length w c2 c4 y28 0 0 0 0 acts) (fun (y29 : List Int × Int × Int × Int × Int) => (∀ (y30 : List Pr), (Req (inR c4 acts.length) (Req (inR (offs c4 0) acts.length) ((So (y1c c3 (yi.mk (List.getD (acts.getD (Int.toNat (offs c4 (0 : Nat))) (List.replicate (3 : Nat) (0 : Int))) (0 : Nat) (0 : Int)) (List.getD (acts.getD (Int.toNat (offs c4 (0 : Nat))) (List.replicate (3 : Nat) (0 : Int))) (1 : Nat) (0 : Int)) (List.getD (acts.getD (Int.toNat (offs c4 (0 : Nat))) (List.replicate (3 : Nat) (0 : Int))) (2 : Nat) (0 : Int))) y28 w2) (fun (y31 : Int × Int × Int × Int × List Int) => (br (!(y29.2.1 == y31.1 && (y29.2.2.1 == y31.2.1 && (y29.2.2.2.1 == y31.2.2.1 && (y29.2.2.2.2 == y31.2.2.2.1 && true))))) (K (vb false) [.row 6 acts true]) (So (y1a y29.1 y31.2.2.2.2) (fun (y32 : Bool) => (br (!y32) (K (vb false) [.row 6 acts true]) (Req (inR c4 acts.length) (Req (inR (offs c4 0) acts.length) (br (decide (List.getD (acts.getD (Int.toNat (offs c4 (0 : Nat))) (List.replicate (3 : Nat) (0 : Int))) (0 : Nat) (0 : Int) ≥ (0 : Int))) (Req (inR c4 acts.length) (Req (inR (offs c4 0) acts.length) (br (decide (List.getD (acts.getD (Int.toNat (offs c4 (0 : Nat))) (List.replicate (3 : Nat) (0 : Int))) (0 : Nat) (0 : Int) < (2 : Int))) (br (y31.2.1 == 1) (Req (decide (w3.length + 1 ≤ 1048576)) (J1 (mkEnv [(3, .ptr 1 0), (5, .ptr 2 0), (6, .ptr 3 0), (7, .row 4), (8, .row 5), (9, .row 6), (10, .ptr 7 0)]) [.row 6 acts true, .cells 24 [.row 0], .cells 28 (yd c2), .cells 30 (ye c3.C), .row 0 (y29.1 : List Int) false, .row 0 (y31.2.2.2.2 : List Int) false, .row 0 (w3 ++ [y31.1] : List Int) false, .cells 3 [vi (IntKind.i64.wrap (c4 + 1))]])) (Req (inR c4 acts.length) (Req (inR (offs c4 0) acts.length) (br (decide (List.getD (acts.getD (Int.toNat (offs c4 (0 : Nat))) (List.replicate (3 : Nat) (0 : Int))) (0 : Nat) (0 : Int) ≥ (2 : Int))) (Req (inR c4 acts.length) (Req (inR (offs c4 0) acts.length) (br (decide (List.getD (acts.getD (Int.toNat (offs c4 (0 : Nat))) (List.replicate (3 : Nat) (0 : Int))) (0 : Nat) (0 : Int) < (4 : Int))) (br (y31.1 == 1) (So (y0i y28 w3) (fun (y33 : List Int) => (J1 (mkEnv [(3, .ptr 1 0), (5, .ptr 2 0), (6, .ptr 3 0), (7, .row 4), (8, .row 5), (9, .row 6), (10, .ptr 7 0)]) [.row 6 acts true, .cells 24 [.row 0], .cells 28 (yd c2), .cells 30 (ye c3.C), .row 0 (y29.1 : List Int) false, .row 0 (y31.2.2.2.2 : List Int) false, .row 0 y33 false, .cells 3 [vi (IntKind.i64.wrap (c4 + 1))]]))) (J1 (mkEnv [(3, .ptr 1 0), (5, .ptr 2 0), (6, .ptr 3 0), (7, .row 4), (8, .row 5), (9, .row 6), (10, .ptr 7 0)]) [.row 6 acts true, .cells 24 [.row 0], .cells 28 (yd c2), .cells 30 (ye c3.C), .row 0 (y29.1 : List Int) false, .row 0 (y31.2.2.2.2 : List Int) false, .row 0 w3 false, .cells 3 [vi (IntKind.i64.wrap (c4 + 1))]])) (J1 (mkEnv [(3, .ptr 1 0), (5, .ptr 2 0), (6, .ptr 3 0), (7, .row 4), (8, .row 5), (9, .row 6), (10, .ptr 7 0)]) [.row 6 acts true, .cells 24 [.row 0], .cells 28 (yd c2), .cells 30 (ye c3.C), .row 0 (y29.1 : List Int) false, .row 0 (y31.2.2.2.2 : List Int) false, .row 0 w3 false, .cells 3 [vi (IntKind.i64.wrap (c4 + 1))]])))) (J1 (mkEnv [(3, .ptr 1 0), (5, .ptr 2 0), (6, .ptr 3 0), (7, .row 4), (8, .row 5), (9, .row 6), (10, .ptr 7 0)]) [.row 6 acts true, .cells 24 [.row 0], .cells 28 (yd c2), .cells 30 (ye c3.C), .row 0 (y29.1 : List Int) false, .row 0 (y31.2.2.2.2 : List Int) false, .row 0 w3 false, .cells 3 [vi (IntKind.i64.wrap (c4 + 1))]]))))) (Req (inR c4 acts.length) (Req (inR (offs c4 0) acts.length) (br (decide (List.getD (acts.getD (Int.toNat (offs c4 (0 : Nat))) (List.replicate (3 : Nat) (0 : Int))) (0 : Nat) (0 : Int) ≥ (2 : Int))) (Req (inR c4 acts.length) (Req (inR (offs c4 0) acts.length) (br (decide (List.getD (acts.getD (Int.toNat (offs c4 (0 : Nat))) (List.replicate (3 : Nat) (0 : Int))) (0 : Nat) (0 : Int) < (4 : Int))) (br (y31.1 == 1) (So (y0i y28 w3) (fun (y34 : List Int) => (J1 (mkEnv [(3, .ptr 1 0), (5, .ptr 2 0), (6, .ptr 3 0), (7, .row 4), (8, .row 5), (9, .row 6), (10, .ptr 7 0)]) [.row 6 acts true, .cells 24 [.row 0], .cells 28 (yd c2), .cells 30 (ye c3.C), .row 0 (y29.1 : List Int) false, .row 0 (y31.2.2.2.2 : List Int) false, .row 0 y34 false, .cells 3 [vi (IntKind.i64.wrap (c4 + 1))]]))) (J1 (mkEnv [(3, .ptr 1 0), (5, .ptr 2 0), (6, .ptr 3 0), (7, .row 4), (8, .row 5), (9, .row 6), (10, .ptr 7 0)]) [.row 6 acts true, .cells 24 [.row 0], .cells 28 (yd c2), .cells 30 (ye c3.C), .row 0 (y29.1 : List Int) false, .row 0 (y31.2.2.2.2 : List Int) false, .row 0 w3 false, .cells 3 [vi (IntKind.i64.wrap (c4 + 1))]])) (J1 (mkEnv [(3, .ptr 1 0), (5, .ptr 2 0), (6, .ptr 3 0), (7, .row 4), (8, .row 5), (9, .row 6), (10, .ptr 7 0)]) [.row 6 acts true, .cells 24 [.row 0], .cells 28 (yd c2), .cells 30 (ye c3.C), .row 0 (y29.1 : List Int) false, .row 0 (y31.2.2.2.2 : List Int) false, .row 0 w3 false, .cells 3 [vi (IntKind.i64.wrap (c4 + 1))]])))) (J1 (mkEnv [(3, .ptr 1 0), (5, .ptr 2 0), (6, .ptr 3 0), (7, .row 4), (8, .row 5), (9, .row 6), (10, .ptr 7 0)]) [.row 6 acts true, .cells 24 [.row 0], .cells 28 (yd c2), .cells 30 (ye c3.C), .row 0 (y29.1 : List Int) false, .row 0 (y31.2.2.2.2 : List Int) false, .row 0 w3 false, .cells 3 [vi (IntKind.i64.wrap (c4 + 1))]]))))))) (Req (inR c4 acts.length) (Req (inR (offs c4 0) acts.length) (br (decide (List.getD (acts.getD (Int.toNat (offs c4 (0 : Nat))) (List.replicate (3 : Nat) (0 : Int))) (0 : Nat) (0 : Int) ≥ (2 : Int))) (Req (inR c4 acts.length) (Req (inR (offs c4 0) acts.length) (br (decide (List.getD (acts.getD (Int.toNat (offs c4 (0 : Nat))) (List.replicate (3 : Nat) (0 : Int))) (0 : Nat) (0 : Int) < (4 : Int))) (br (y31.1 == 1) (So (y0i y28 w3) (fun (y35 : List Int) => (J1 (mkEnv [(3, .ptr 1 0), (5, .ptr 2 0), (6, .ptr 3 0), (7, .row 4), (8, .row 5), (9, .row 6), (10, .ptr 7 0)]) [.row 6 acts true, .cells 24 [.row 0], .cells 28 (yd c2), .cells 30 (ye c3.C), .row 0 (y29.1 : List Int) false, .row 0 (y31.2.2.2.2 : List Int) false, .row 0 y35 false, .cells 3 [vi (IntKind.i64.wrap (c4 + 1))]]))) (J1 (mkEnv [(3, .ptr 1 0), (5, .ptr 2 0), (6, .ptr 3 0), (7, .row 4), (8, .row 5), (9, .row 6), (10, .ptr 7 0)]) [.row 6 acts true, .cells 24 [.row 0], .cells 28 (yd c2), .cells 30 (ye c3.C), .row 0 (y29.1 : List Int) false, .row 0 (y31.2.2.2.2 : List Int) false, .row 0 w3 false, .cells 3 [vi (IntKind.i64.wrap (c4 + 1))]])) (J1 (mkEnv [(3, .ptr 1 0), (5, .ptr 2 0), (6, .ptr 3 0), (7, .row 4), (8, .row 5), (9, .row 6), (10, .ptr 7 0)]) [.row 6 acts true, .cells 24 [.row 0], .cells 28 (yd c2), .cells 30 (ye c3.C), .row 0 (y29.1 : List Int) false, .row 0 (y31.2.2.2.2 : List Int) false, .row 0 w3 false, .cells 3 [vi (IntKind.i64.wrap (c4 + 1))]])))) (J1 (mkEnv [(3, .ptr 1 0), (5, .ptr 2 0), (6, .ptr 3 0), (7, .row 4), (8, .row 5), (9, .row 6), (10, .ptr 7 0)]) [.row 6 acts true, .cells 24 [.row 0], .cells 28 (yd c2), .cells 30 (ye c3.C), .row 0 (y29.1 : List Int) false, .row 0 (y31.2.2.2.2 : List Int) false, .row 0 w3 false, .cells 3 [vi (IntKind.i64.wrap (c4 + 1))]]))))))))))))) ∧ (So (y1c c3 (yi.mk (List.getD (acts.getD (Int.toNat (offs c4 (0 : Nat))) (List.replicate (3 : Nat) (0 : Int))) (0 : Nat) (0 : Int)) (List.getD (acts.getD (Int.toNat (offs c4 (0 : Nat))) (List.replicate (3 : Nat) (0 : Int))) (1 : Nat) (0 : Int)) (List.getD (acts.getD (Int.toNat (offs c4 (0 : Nat))) (List.replicate (3 : Nat) (0 : Int))) (2 : Nat) (0 : Int))) y28 w2) (fun (y36 : Int × Int × Int × Int × List Int) => (br (!(y29.2.1 == y36.1 && (y29.2.2.1 == y36.2.1 && (y29.2.2.2.1 == y36.2.2.1 && (y29.2.2.2.2 == y36.2.2.2.1 && true))))) (K (vb false) [.row 6 acts true]) (So (y1a y29.1 y36.2.2.2.2) (fun (y37 : Bool) => (br (!y37) (K (vb false) [.row 6 acts true]) (Req (inR c4 acts.length) (Req (inR (offs c4 0) acts.length) (br (decide (List.getD (acts.getD (Int.toNat (offs c4 (0 : Nat))) (List.replicate (3 : Nat) (0 : Int))) (0 : Nat) (0 : Int) ≥ (0 : Int))) (Req (inR c4 acts.length) (Req (inR (offs c4 0) acts.length) (br (decide (List.getD (acts.getD (Int.toNat (offs c4 (0 : Nat))) (List.replicate (3 : Nat) (0 : Int))) (0 : Nat) (0 : Int) < (2 : Int))) (br (y36.2.1 == 1) (Req (decide (w3.length + 1 ≤ 1048576)) (J1 (mkEnv [(3, .ptr 1 0), (5, .ptr 2 0), (6, .ptr 3 0), (7, .row 4), (8, .row 5), (9, .row 6), (10, .ptr 7 0)]) [.row 6 acts true, .cells 24 [.row 0], .cells 28 (yd c2), .cells 30 (ye c3.C), .row 0 (y29.1 : List Int) false, .row 0 (y36.2.2.2.2 : List Int) false, .row 0 (w3 ++ [y36.1] : List Int) false, .cells 3 [vi (IntKind.i64.wrap (c4 + 1))]])) (Req (inR c4 acts.length) (Req (inR (offs c4 0) acts.length) (br (decide (List.getD (acts.getD (Int.toNat (offs c4 (0 : Nat))) (List.replicate (3 : Nat) (0 : Int))) (0 : Nat) (0 : Int) ≥ (2 : Int))) (Req (inR c4 acts.length) (Req (inR (offs c4 0) acts.length) (br (decide (List.getD (acts.getD (Int.toNat (offs c4 (0 : Nat))) (List.replicate (3 : Nat) (0 : Int))) (0 : Nat) (0 : Int) < (4 : Int))) (br (y36.1 == 1) (So (y0i y28 w3) (fun (y38 : List Int) => (J1 (mkEnv [(3, .ptr 1 0), (5, .ptr 2 0), (6, .ptr 3 0), (7, .row 4), (8, .row 5), (9, .row 6), (10, .ptr 7 0)]) [.row 6 acts true, .cells 24 [.row 0], .cells 28 (yd c2), .cells 30 (ye c3.C), .row 0 (y29.1 : List Int) false, .row 0 (y36.2.2.2.2 : List Int) false, .row 0 y38 false, .cells 3 [vi (IntKind.i64.wrap (c4 + 1))]]))) (J1 (mkEnv [(3, .ptr 1 0), (5, .ptr 2 0), (6, .ptr 3 0), (7, .row 4), (8, .row 5), (9, .row 6), (10, .ptr 7 0)]) [.row 6 acts true, .cells 24 [.row 0], .cells 28 (yd c2), .cells 30 (ye c3.C), .row 0 (y29.1 : List Int) false, .row 0 (y36.2.2.2.2 : List Int) false, .row 0 w3 false, .cells 3 [vi (IntKind.i64.wrap (c4 + 1))]])) (J1 (mkEnv [(3, .ptr 1 0), (5, .ptr 2 0), (6, .ptr 3 0), (7, .row 4), (8, .row 5), (9, .row 6), (10, .ptr 7 0)]) [.row 6 acts true, .cells 24 [.row 0], .cells 28 (yd c2), .cells 30 (ye c3.C), .row 0 (y29.1 : List Int) false, .row 0 (y36.2.2.2.2 : List Int) false, .row 0 w3 false, .cells 3 [vi (IntKind.i64.wrap (c4 + 1))]])))) (J1 (mkEnv [(3, .ptr 1 0), (5, .ptr 2 0), (6, .ptr 3 0), (7, .row 4), (8, .row 5), (9, .row 6), (10, .ptr 7 0)]) [.row 6 acts true, .cells 24 [.row 0], .cells 28 (yd c2), .cells 30 (ye c3.C), .row 0 (y29.1 : List Int) false, .row 0 (y36.2.2.2.2 : List Int) false, .row 0 w3 false, .cells 3 [vi (IntKind.i64.wrap (c4 + 1))]]))))) (Req (inR c4 acts.length) (Req (inR (offs c4 0) acts.length) (br (decide (List.getD (acts.getD (Int.toNat (offs c4 (0 : Nat))) (List.replicate (3 : Nat) (0 : Int))) (0 : Nat) (0 : Int) ≥ (2 : Int))) (Req (inR c4 acts.length) (Req (inR (offs c4 0) acts.length) (br (decide (List.getD (acts.getD (Int.toNat (offs c4 (0 : Nat))) (List.replicate (3 : Nat) (0 : Int))) (0 : Nat) (0 : Int) < (4 : Int))) (br (y36.1 == 1) (So (y0i y28 w3) (fun (y39 : List Int) => (J1 (mkEnv [(3, .ptr 1 0), (5, .ptr 2 0), (6, .ptr 3 0), (7, .row 4), (8, .row 5), (9, .row 6), (10, .ptr 7 0)]) [.row 6 acts true, .cells 24 [.row 0], .cells 28 (yd c2), .cells 30 (ye c3.C), .row 0 (y29.1 : List Int) false, .row 0 (y36.2.2.2.2 : List Int) false, .row 0 y39 false, .cells 3 [vi (IntKind.i64.wrap (c4 + 1))]]))) (J1 (mkEnv [(3, .ptr 1 0), (5, .ptr 2 0), (6, .ptr 3 0), (7, .row 4), (8, .row 5), (9, .row 6), (10, .ptr 7 0)]) [.row 6 acts true, .cells 24 [.row 0], .cells 28 (yd c2), .cells 30 (ye c3.C), .row 0 (y29.1 : List Int) false, .row 0 (y36.2.2.2.2 : List Int) false, .row 0 w3 false, .cells 3 [vi (IntKind.i64.wrap (c4 + 1))]])) (J1 (mkEnv [(3, .ptr 1 0), (5, .ptr 2 0), (6, .ptr 3 0), (7, .row 4), (8, .row 5), (9, .row 6), (10, .ptr 7 0)]) [.row 6 acts true, .cells 24 [.row 0], .cells 28 (yd c2), .cells 30 (ye c3.C), .row 0 (y29.1 : List Int) false, .row 0 (y36.2.2.2.2 : List Int) false, .row 0 w3 false, .cells 3 [vi (IntKind.i64.wrap (c4 + 1))]])))) (J1 (mkEnv [(3, .ptr 1 0), (5, .ptr 2 0), (6, .ptr 3 0), (7, .row 4), (8, .row 5), (9, .row 6), (10, .ptr 7 0)]) [.row 6 acts true, .cells 24 [.row 0], .cells 28 (yd c2), .cells 30 (ye c3.C), .row 0 (y29.1 : List Int) false, .row 0 (y36.2.2.2.2 : List Int) false, .row 0 w3 false, .cells 3 [vi (IntKind.i64.wrap (c4 + 1))]]))))))) (Req (inR c4 acts.length) (Req (inR (offs c4 0) acts.length) (br (decide (List.getD (acts.getD (Int.toNat (offs c4 (0 : Nat))) (List.replicate (3 : Nat) (0 : Int))) (0 : Nat) (0 : Int) ≥ (2 : Int))) (Req (inR c4 acts.length) (Req (inR (offs c4 0) acts.length) (br (decide (List.getD (acts.getD (Int.toNat (offs c4 (0 : Nat))) (List.replicate (3 : Nat) (0 : Int))) (0 : Nat) (0 : Int) < (4 : Int))) (br (y36.1 == 1) (So (y0i y28 w3) (fun (y40 : List Int) => (J1 (mkEnv [(3, .ptr 1 0), (5, .ptr 2 0), (6, .ptr 3 0), (7, .row 4), (8, .row 5), (9, .row 6), (10, .ptr 7 0)]) [.row 6 acts true, .cells 24 [.row 0], .cells 28 (yd c2), .cells 30 (ye c3.C), .row 0 (y29.1 : List Int) false, .row 0 (y36.2.2.2.2 : List Int) false, .row 0 y40 false, .cells 3 [vi (IntKind.i64.wrap (c4 + 1))]]))) (J1 (mkEnv [(3, .ptr 1 0), (5, .ptr 2 0), (6, .ptr 3 0), (7, .row 4), (8, .row 5), (9, .row 6), (10, .ptr 7 0)]) [.row 6 acts true, .cells 24 [.row 0], .cells 28 (yd c2), .cells 30 (ye c3.C), .row 0 (y29.1 : List Int) false, .row 0 (y36.2.2.2.2 : List Int) false, .row 0 w3 false, .cells 3 [vi (IntKind.i64.wrap (c4 + 1))]])) (J1 (mkEnv [(3, .ptr 1 0), (5, .ptr 2 0), (6, .ptr 3 0), (7, .row 4), (8, .row 5), (9, .row 6), (10, .ptr 7 0)]) [.row 6 acts true, .cells 24 [.row 0], .cells 28 (yd c2), .cells 30 (ye c3.C), .row 0 (y29.1 : List Int) false, .row 0 (y36.2.2.2.2 : List Int) false, .row 0 w3 false, .cells 3 [vi (IntKind.i64.wrap (c4 + 1))]])))) (J1 (mkEnv [(3, .ptr 1 0), (5, .ptr 2 0), (6, .ptr 3 0), (7, .row 4), (8, .row 5), (9, .row 6), (10, .ptr 7 0)]) [.row 6 acts true, .cells 24 [.row 0], .cells 28 (yd c2), .cells 30 (ye c3.C), .row 0 (y29.1 : List Int) false, .row 0 (y36.2.2.2.2 : List Int) false, .row 0 w3 false, .cells 3 [vi (IntKind.i64.wrap (c4 + 1))]]))))))))))))))))))))))))))) (So y1l (fun (y41 : Bool) => (K (vb y41) [.row 6 acts true])))) := by kernel_rfl
theorem yle (y1l : Option Bool) (y1t : Y46) (y02 : Y1) (y1k : Y61) (y1m : Nat → (List Int) → ya → Int → Int → Int → Int → Int → Int → (List (List Int)) → Option ((List Int) × Int × Int × Int × Int)) (y1c : Y23) (y1a : Y59) (y0i : Y60) (c : yb) (acts : List (List Int)) (K : V → Heap → Prop) : (exF (y4g y1l y1t y02 y1k y1m y1c y1a y0i) Tryz.f3 [.agg (ye c), .row 0] [.row 6 acts true] K) = (
    br (decide ((↑acts.length : Int) > 100)) (So y1l (fun (y0 : Bool) => (K (vb y0) [.row 6 acts true]))) (So (y1t c) (fun (y1 : ya × T_assartref02_Layout × List Int) => (Req (decide (0 + y1.2.2.length ≤ 1048576)) (Loop (y4g y1l y1t y02 y1k y1m y1c y1a y0i) (⟨121, 1⟩ : Cx) (at_ (bodyOf Tryz.f3) [1, 1, 1, 1, 1, 0, 1, 0, 0]) (mkEnv [(3, .ptr 1 0), (5, .ptr 2 0), (6, .ptr 3 0), (7, .row 4), (8, .row 5), (9, .row 6), (10, .ptr 7 0)]) [.row 6 acts true, .cells 24 [.row 0], .cells 28 (yd y1.1), .cells 30 (ye y1.2.1.C), .row 0 (y1.2.2 : List Int) false, .row 0 (y1.2.2 : List Int) false, .row 0 ([] : List Int) false, .cells 3 [vi 0]] (contK (y4g y1l y1t y02 y1k y1m y1c y1a y0i) (⟨121, 1⟩ : Cx) (bodyOf Tryz.f3) [1, 1, 1, 1, 1, 0, 1, 0] (retK (y4g y1l y1t y02 y1k y1m y1c y1a y0i) Tryz.f3 1 K))))))) := by kernel_rfl
def y1l  : Option Bool :=
  ((y2d (yb.mk 0 0 0 0 0 0 0 0 0 0 0)).bind fun y0 => ((y2r (yb.mk y0.Workers y0.CPUs 2 y0.Stripes y0.Tries y0.Wait y0.Clock y0.Private y0.Cache y0.Bin y0.Batch)).bind fun y1 => ((y53 y1.1).bind fun y2 => (bif (decide (0 ≤ y2 ∧ y2 ≤ y2 ∧ y2 ≤ 1048576)) then (bif (Nat.ble (List.length (List.replicate (Int.toNat y2) (0 : Int))) (1048576 : Nat)) then ((y48 (List.length (List.replicate (Int.toNat y2) (0 : Int))) (List.replicate (Int.toNat y2) (0 : Int)) y1.1 (0 : Int) (0 : Int) (0 : Int) (0 : Int)).bind fun y3 => (bif (y1.2 == 0) then ((y57 y1.1).bind fun y5 => (bif (y3.2.1 == y5) then (bif (y3.2.2.1 == IntKind.i64.wrap (y3.2.1 + 16)) then (bif (y3.2.2.2.1 == IntKind.i64.wrap (y3.2.1 + 32)) then some (y3.2.2.2.2 == 1) else some false) else some false) else some false)) else some false)) else none) else none))))
def y6k (acts : List (List Int)) (c2 : ya) (c3 : T_assartref02_Layout) (w w2 w3 : List Int) (c4 : Int) : Option (((List Int) × (List Int) × (List Int) × Int) ⊕ Bool) :=
  (bif (decide (c4 < (↑acts.length : Int))) then (bif (inR c4 acts.length) then (bif (inR (offs c4 0) acts.length) then ((y02 c3).bind fun y27 => ((y1k y27 (yi.mk (List.getD (acts.getD (Int.toNat (offs c4 (0 : Nat))) (List.replicate (3 : Nat) (0 : Int))) (0 : Nat) (0 : Int)) (List.getD (acts.getD (Int.toNat (offs c4 (0 : Nat))) (List.replicate (3 : Nat) (0 : Int))) (1 : Nat) (0 : Int)) (List.getD (acts.getD (Int.toNat (offs c4 (0 : Nat))) (List.replicate (3 : Nat) (0 : Int))) (2 : Nat) (0 : Int))) w3).bind fun y28 => (bif (Nat.ble w.length 1048576) then ((y1m w.length w c2 c4 y28 0 0 0 0 acts).bind fun y29 => (bif (inR c4 acts.length) then (bif (inR (offs c4 0) acts.length) then ((y1c c3 (yi.mk (List.getD (acts.getD (Int.toNat (offs c4 (0 : Nat))) (List.replicate (3 : Nat) (0 : Int))) (0 : Nat) (0 : Int)) (List.getD (acts.getD (Int.toNat (offs c4 (0 : Nat))) (List.replicate (3 : Nat) (0 : Int))) (1 : Nat) (0 : Int)) (List.getD (acts.getD (Int.toNat (offs c4 (0 : Nat))) (List.replicate (3 : Nat) (0 : Int))) (2 : Nat) (0 : Int))) y28 w2).bind fun y36 => (bif (!(y29.2.1 == y36.1 && (y29.2.2.1 == y36.2.1 && (y29.2.2.2.1 == y36.2.2.1 && (y29.2.2.2.2 == y36.2.2.2.1 && true))))) then some (.inr false) else ((y1a y29.1 y36.2.2.2.2).bind fun y37 => (bif (!y37) then some (.inr false) else (bif (inR c4 acts.length) then (bif (inR (offs c4 0) acts.length) then (bif (decide (List.getD (acts.getD (Int.toNat (offs c4 (0 : Nat))) (List.replicate (3 : Nat) (0 : Int))) (0 : Nat) (0 : Int) ≥ (0 : Int))) then (bif (inR c4 acts.length) then (bif (inR (offs c4 0) acts.length) then (bif (decide (List.getD (acts.getD (Int.toNat (offs c4 (0 : Nat))) (List.replicate (3 : Nat) (0 : Int))) (0 : Nat) (0 : Int) < (2 : Int))) then (bif (y36.2.1 == 1) then (bif (decide (w3.length + 1 ≤ 1048576)) then some (.inl (y29.1, y36.2.2.2.2, (w3 ++ [y36.1]), (IntKind.i64.wrap (c4 + 1)))) else none) else (bif (inR c4 acts.length) then (bif (inR (offs c4 0) acts.length) then (bif (decide (List.getD (acts.getD (Int.toNat (offs c4 (0 : Nat))) (List.replicate (3 : Nat) (0 : Int))) (0 : Nat) (0 : Int) ≥ (2 : Int))) then (bif (inR c4 acts.length) then (bif (inR (offs c4 0) acts.length) then (bif (decide (List.getD (acts.getD (Int.toNat (offs c4 (0 : Nat))) (List.replicate (3 : Nat) (0 : Int))) (0 : Nat) (0 : Int) < (4 : Int))) then (bif (y36.1 == 1) then ((y0i y28 w3).bind fun y38 => some (.inl (y29.1, y36.2.2.2.2, y38, (IntKind.i64.wrap (c4 + 1))))) else some (.inl (y29.1, y36.2.2.2.2, w3, (IntKind.i64.wrap (c4 + 1))))) else some (.inl (y29.1, y36.2.2.2.2, w3, (IntKind.i64.wrap (c4 + 1))))) else none) else none) else some (.inl (y29.1, y36.2.2.2.2, w3, (IntKind.i64.wrap (c4 + 1))))) else none) else none)) else (bif (inR c4 acts.length) then (bif (inR (offs c4 0) acts.length) then (bif (decide (List.getD (acts.getD (Int.toNat (offs c4 (0 : Nat))) (List.replicate (3 : Nat) (0 : Int))) (0 : Nat) (0 : Int) ≥ (2 : Int))) then (bif (inR c4 acts.length) then (bif (inR (offs c4 0) acts.length) then (bif (decide (List.getD (acts.getD (Int.toNat (offs c4 (0 : Nat))) (List.replicate (3 : Nat) (0 : Int))) (0 : Nat) (0 : Int) < (4 : Int))) then (bif (y36.1 == 1) then ((y0i y28 w3).bind fun y39 => some (.inl (y29.1, y36.2.2.2.2, y39, (IntKind.i64.wrap (c4 + 1))))) else some (.inl (y29.1, y36.2.2.2.2, w3, (IntKind.i64.wrap (c4 + 1))))) else some (.inl (y29.1, y36.2.2.2.2, w3, (IntKind.i64.wrap (c4 + 1))))) else none) else none) else some (.inl (y29.1, y36.2.2.2.2, w3, (IntKind.i64.wrap (c4 + 1))))) else none) else none)) else none) else none) else (bif (inR c4 acts.length) then (bif (inR (offs c4 0) acts.length) then (bif (decide (List.getD (acts.getD (Int.toNat (offs c4 (0 : Nat))) (List.replicate (3 : Nat) (0 : Int))) (0 : Nat) (0 : Int) ≥ (2 : Int))) then (bif (inR c4 acts.length) then (bif (inR (offs c4 0) acts.length) then (bif (decide (List.getD (acts.getD (Int.toNat (offs c4 (0 : Nat))) (List.replicate (3 : Nat) (0 : Int))) (0 : Nat) (0 : Int) < (4 : Int))) then (bif (y36.1 == 1) then ((y0i y28 w3).bind fun y40 => some (.inl (y29.1, y36.2.2.2.2, y40, (IntKind.i64.wrap (c4 + 1))))) else some (.inl (y29.1, y36.2.2.2.2, w3, (IntKind.i64.wrap (c4 + 1))))) else some (.inl (y29.1, y36.2.2.2.2, w3, (IntKind.i64.wrap (c4 + 1))))) else none) else none) else some (.inl (y29.1, y36.2.2.2.2, w3, (IntKind.i64.wrap (c4 + 1))))) else none) else none)) else none) else none))))) else none) else none)) else none))) else none) else none) else (y1l.bind fun y41 => some (.inr y41)))
def ye9 (acts : List (List Int)) (c2 : ya) (c3 : T_assartref02_Layout) (s : (List Int) × (List Int) × (List Int) × Int) : Option Bool :=
  loopO (fun s => y6k acts c2 c3 s.1 s.2.1 s.2.2.1 s.2.2.2) s
def y5q (c : yb) (acts : List (List Int)) : Option Bool :=
  (bif (decide ((↑acts.length : Int) > 100)) then (y1l.bind fun y0 => some y0) else ((y1t c).bind fun y1 => (bif (decide (0 + y1.2.2.length ≤ 1048576)) then (ye9 acts y1.1 y1.2.1 (y1.2.2, y1.2.2, ([]), 0)) else none)))
attribute [local irreducible] Loop ex exF contK roundK retK at_ bodyOf mkEnv
theorem ykg : SpecOK Tryz.prog elTT 6 (yhs y1l) := by
  refine spec_of_exF (cfg := (yie y2d y2r y53 y48 y57)) (yg rfl rfl rfl) (yc yg6 (yc yij (yc yog (yc (okdo_law11_lives_1 yk2) (yc yqq yh))))) (fn := Tryz.f6) (by kernel_rfl) (by kernel_rfl) (by kernel_rfl) ?_
  intro args H K h
  change y9f y1l args H K at h
  unfold y9f at h
  repeat first | (obtain ⟨_, h⟩ := h) | replace h := Des.el h
  subst_vars
  refine Eq.mpr (yka y2d y2r y53 y48 y57  K) ?_
  unfold y1l at h
  revert h
  exact bind_So fun y0 => bind_So fun y1 => bind_So fun y2 => req_So (req_So (bind_So fun y3 => all_So fun y4 => br_So (bind_So fun y5 => br_So (br_So (br_So (fun h => h) (fun h => h)) (fun h => h)) (fun h => h)) (fun h => h)))
theorem lpok_law11_PagesPlays_L1 (c : yb) (acts : List (List Int)) (c2 : ya) (c3 : T_assartref02_Layout) (w w2 w3 : List Int) (c4 : Int) (K : V → Heap → Prop) : So (ye9 acts c2 c3 (w, w2, w3, c4)) (fun (x : Bool) => K (vb x) [.row 6 acts true]) → Loop (y4g y1l y1t y02 y1k y1m y1c y1a y0i) (⟨121, 1⟩ : Cx) (at_ (bodyOf Tryz.f3) [1, 1, 1, 1, 1, 0, 1, 0, 0]) (mkEnv [(3, .ptr 1 0), (5, .ptr 2 0), (6, .ptr 3 0), (7, .row 4), (8, .row 5), (9, .row 6), (10, .ptr 7 0)]) [.row 6 acts true, .cells 24 [.row 0], .cells 28 (yd c2), .cells 30 (ye c3.C), .row 0 w false, .row 0 w2 false, .row 0 w3 false, .cells 3 [vi c4]] (contK (y4g y1l y1t y02 y1k y1m y1c y1a y0i) (⟨121, 1⟩ : Cx) (bodyOf Tryz.f3) [1, 1, 1, 1, 1, 0, 1, 0] (retK (y4g y1l y1t y02 y1k y1m y1c y1a y0i) Tryz.f3 1 K)) := by
  refine loopK_So (fun (s_ : (List Int) × (List Int) × (List Int) × Int) => (mkEnv [(3, .ptr 1 0), (5, .ptr 2 0), (6, .ptr 3 0), (7, .row 4), (8, .row 5), (9, .row 6), (10, .ptr 7 0)])) (fun (s_ : (List Int) × (List Int) × (List Int) × Int) => [.row 6 acts true, .cells 24 [.row 0], .cells 28 (yd c2), .cells 30 (ye c3.C), .row 0 (s_.1 : List Int) false, .row 0 (s_.2.1 : List Int) false, .row 0 (s_.2.2.1 : List Int) false, .cells 3 [vi s_.2.2.2]]) (fun (x : Bool) => K (vb x) [.row 6 acts true]) ?_ (w, w2, w3, c4)
  intro s_ J1 h
  clear w
  clear w2
  clear w3
  clear c4
  obtain ⟨w, w2, w3, c4⟩ := s_
  refine Eq.mpr (yny y1l y1t y02 y1k y1m y1c y1a y0i c acts c2 c3 w w2 w3 c4 K J1) ?_
  have h : So (y6k acts c2 c3 w w2 w3 c4) _ := h
  unfold y6k at h
  revert h
  exact br_So (req_So (req_So (alt_So (bind_So fun y0 => alt_So (bind_So fun y1 => req_So (bind_So fun y2 => all_So fun y3 => req_So (req_So (alt_So (bind_So fun y4 => br_So (fun h => h) (bind_So fun y5 => br_So (fun h => h) (req_So (req_So (br_So (req_So (req_So (br_So (br_So (req_So (fun h => h)) (req_So (req_So (br_So (req_So (req_So (br_So (br_So (bind_So fun y6 => fun h => h) (fun h => h)) (fun h => h)))) (fun h => h))))) (req_So (req_So (br_So (req_So (req_So (br_So (br_So (bind_So fun y7 => fun h => h) (fun h => h)) (fun h => h)))) (fun h => h))))))) (req_So (req_So (br_So (req_So (req_So (br_So (br_So (bind_So fun y8 => fun h => h) (fun h => h)) (fun h => h)))) (fun h => h))))))))) (bind_So fun y9 => br_So (fun h => h) (bind_So fun y10 => br_So (fun h => h) (req_So (req_So (br_So (req_So (req_So (br_So (br_So (req_So (fun h => h)) (req_So (req_So (br_So (req_So (req_So (br_So (br_So (bind_So fun y11 => fun h => h) (fun h => h)) (fun h => h)))) (fun h => h))))) (req_So (req_So (br_So (req_So (req_So (br_So (br_So (bind_So fun y12 => fun h => h) (fun h => h)) (fun h => h)))) (fun h => h))))))) (req_So (req_So (br_So (req_So (req_So (br_So (br_So (bind_So fun y13 => fun h => h) (fun h => h)) (fun h => h)))) (fun h => h))))))))))))) (bind_So fun y14 => req_So (bind_So fun y15 => all_So fun y16 => req_So (req_So (alt_So (bind_So fun y17 => br_So (fun h => h) (bind_So fun y18 => br_So (fun h => h) (req_So (req_So (br_So (req_So (req_So (br_So (br_So (req_So (fun h => h)) (req_So (req_So (br_So (req_So (req_So (br_So (br_So (bind_So fun y19 => fun h => h) (fun h => h)) (fun h => h)))) (fun h => h))))) (req_So (req_So (br_So (req_So (req_So (br_So (br_So (bind_So fun y20 => fun h => h) (fun h => h)) (fun h => h)))) (fun h => h))))))) (req_So (req_So (br_So (req_So (req_So (br_So (br_So (bind_So fun y21 => fun h => h) (fun h => h)) (fun h => h)))) (fun h => h))))))))) (bind_So fun y22 => br_So (fun h => h) (bind_So fun y23 => br_So (fun h => h) (req_So (req_So (br_So (req_So (req_So (br_So (br_So (req_So (fun h => h)) (req_So (req_So (br_So (req_So (req_So (br_So (br_So (bind_So fun y24 => fun h => h) (fun h => h)) (fun h => h)))) (fun h => h))))) (req_So (req_So (br_So (req_So (req_So (br_So (br_So (bind_So fun y25 => fun h => h) (fun h => h)) (fun h => h)))) (fun h => h))))))) (req_So (req_So (br_So (req_So (req_So (br_So (br_So (bind_So fun y26 => fun h => h) (fun h => h)) (fun h => h)))) (fun h => h)))))))))))))) (bind_So fun y27 => bind_So fun y28 => req_So (bind_So fun y29 => all_So fun y30 => req_So (req_So (alt_So (bind_So fun y31 => br_So (fun h => h) (bind_So fun y32 => br_So (fun h => h) (req_So (req_So (br_So (req_So (req_So (br_So (br_So (req_So (fun h => h)) (req_So (req_So (br_So (req_So (req_So (br_So (br_So (bind_So fun y33 => fun h => h) (fun h => h)) (fun h => h)))) (fun h => h))))) (req_So (req_So (br_So (req_So (req_So (br_So (br_So (bind_So fun y34 => fun h => h) (fun h => h)) (fun h => h)))) (fun h => h))))))) (req_So (req_So (br_So (req_So (req_So (br_So (br_So (bind_So fun y35 => fun h => h) (fun h => h)) (fun h => h)))) (fun h => h))))))))) (bind_So fun y36 => br_So (fun h => h) (bind_So fun y37 => br_So (fun h => h) (req_So (req_So (br_So (req_So (req_So (br_So (br_So (req_So (fun h => h)) (req_So (req_So (br_So (req_So (req_So (br_So (br_So (bind_So fun y38 => fun h => h) (fun h => h)) (fun h => h)))) (fun h => h))))) (req_So (req_So (br_So (req_So (req_So (br_So (br_So (bind_So fun y39 => fun h => h) (fun h => h)) (fun h => h)))) (fun h => h))))))) (req_So (req_So (br_So (req_So (req_So (br_So (br_So (bind_So fun y40 => fun h => h) (fun h => h)) (fun h => h)))) (fun h => h)))))))))))))))) (bind_So fun y41 => fun h => h)
theorem yn2 : SpecOK Tryz.prog elTT 3 (ynh y5q) := by
  refine spec_of_exF (cfg := (y4g y1l y1t y02 y1k y1m y1c y1a y0i)) (yg rfl rfl rfl) (yc ykg (yc yom (yc y7i (yc ykn (yc (okdo_law11_PagesPlays_1 ypa) (yc yqf (yc yot (yc ykh yh)))))))) (fn := Tryz.f3) (by kernel_rfl) (by kernel_rfl) (by kernel_rfl) ?_
  intro args H K h
  change yai y5q args H K at h
  unfold yai at h
  repeat first | (obtain ⟨_, h⟩ := h) | replace h := Des.el h
  subst_vars
  refine Eq.mpr (yle y1l y1t y02 y1k y1m y1c y1a y0i _ _ K) ?_
  unfold y5q at h
  revert h
  exact br_So (bind_So fun y0 => fun h => h) (bind_So fun y1 => req_So (lpok_law11_PagesPlays_L1 (by first | assumption | exact default) _ _ _ _ _ _ _ K))
end Go.Rx
end

section
namespace Go.Rx
open Go.Proofs
theorem LayOK.words11 {L : ya} (h : LayOK L) : 128 ≤ L.at_11 ∧ L.at_11 ≤ 40000 := by
  have hb := h.big; have h11 := h.a11; have hp := h.pages
  omega
theorem addr4 {L : ya} {w x : List Int} {a p i : Int} {m : Nat} (t : Got L w 4 a x p i m) : a = L.at_10 + p * 32 + i * 16 := t.addr
theorem lives11_eq : y1l = some true := by
  unfold y1l
  obtain ⟨d, hS, hR⟩ := Small_eq (yb.mk 0 0 0 0 0 0 0 0 0 0 0)
  rw [hS, Option.bind_some, Of_eq]
  have hR' : RightC (yb.mk d.Workers d.CPUs 2 d.Stripes d.Tries d.Wait d.Clock d.Private d.Cache d.Bin d.Batch) :=
    ⟨hR.workers, hR.cpus, by simp only; omega, hR.stripes, hR.tries, hR.wait, hR.clock, hR.private_, hR.cache, hR.bin, hR.batch⟩
  rw [if_pos hR', Option.bind_some, Words_eq, Option.bind_some]
  have hL := layC_ok hR'
  have hP : (layC (yb.mk d.Workers d.CPUs 2 d.Stripes d.Tries d.Wait d.Clock d.Private d.Cache d.Bin d.Batch)).c.Pages = 2 := rfl
  simp only
  generalize layC (yb.mk d.Workers d.CPUs 2 d.Stripes d.Tries d.Wait d.Clock d.Private d.Cache d.Bin d.Batch) = L at *
  have hw := hL.words11
  have g := hL.geo11
  have gk := hL.geoK
  have v0 := rep_VOK hL
  have i0 := Inv11.start hL
  have hlen : (List.replicate L.at_11.toNat (0 : Int)).length = L.at_11.toNat := by simp
  rw [decide_eq_true (by omega), cond_true, Nat.ble_eq_true_of_le (by rw [hlen]; omega), cond_true]
  have hz : ∀ (b : Int), wd (List.replicate L.at_11.toNat 0) b = 0 := fun b => by
    simp [wd, List.getD, List.getElem?_replicate]; split <;> rfl
  generalize List.replicate L.at_11.toNat (0 : Int) = w at *
  have hn : L.at_11 ≤ (w.length : Int) := by omega
  have s4 : slotsC 4 = 2 := rfl
  have z4 : sizeC 4 = 16 := rfl
  obtain ⟨a1, b1, u1, e1, g1⟩ := pGrab_eq v0 i0 4
  obtain ⟨l1, inn1, ls1, i1⟩ := g1.inv hL hn i0
  have f1 : b1 = true ∧ a1 = L.at_10 := by
    cases g1 with
    | no h =>
      rcases h with h | ⟨_, h⟩
      · omega
      · exact (h 0 (by omega) (by omega) (hz _)).elim
    | @old p m j hc hp hf _ _ _ =>
      rcases first_cls i0 hc hf with ⟨e, _⟩ | ⟨_, ⟨m', f⟩, _⟩
      · omega
      · have := f.kind
        have : kw L w p = 0 := hz _
        omega
    | @new p u hc hf hr hp ht =>
      have ep : p = 0 := by
        refine hr.uniq ?_
        unfold FindR
        rw [if_pos (by omega)]
        have hk0 : ∀ q, 0 ≤ q → q < 2 → knd L.at_1 L.c.Pages w q = 0 := fun q a b => by rw [knd_in (by omega), hz]
        refine .inr ⟨.inl ⟨rfl, fun q q0 q1 dd => ?_⟩, fit_hit ⟨by decide, by omega, fun j j0 j1 => hk0 j j0 (by omega)⟩ (fun q q0 q1 => by omega)⟩
        have := (dd.all q (by omega) (by omega)).2
        unfold mpd isB at this
        have z : w.getD (L.at_0 + q / 4).toNat 0 = 0 := hz _
        rw [z] at this
        cases hh : thereB L.c.Pages (q / 4) <;> rw [hh] at this <;> cases this
      subst ep
      exact ⟨rfl, by omega⟩
  obtain ⟨rfl, ea1⟩ := f1
  obtain ⟨p1, j1, m1, t1⟩ := got_of hL hn i0 g1
  have hp1 := t1.page; have hj1 := t1.num; have ha1 := addr4 t1
  rw [s4] at hj1
  have ep1 : p1 = 0 := by omega
  have ej1 : j1 = 0 := by omega
  subst ep1; subst ej1
  have em1 : m1 = 0 := by
    rcases t1.was with ⟨h, _⟩ | ⟨_, _, _, h⟩
    · have : kw L w 0 = 0 := hz _
      omega
    · exact h
  subst em1
  have v1 : VOK L w.length u1 := ⟨hL, by rw [l1], v0.all⟩
  have k1 : kw L u1 0 = 5 := t1.kind
  have b1 : bw L u1 0 = ((1 : Nat) : Int) := t1.bits
  have c1 : cw L u1 0 = 1 := t1.left
  obtain ⟨ok1, oc1, ob1⟩ := t1.other 1 (by omega) (by omega) (by omega)
  have zk : kw L w 1 = 0 := hz _
  have zc : cw L w 1 = 0 := hz _
  obtain ⟨a2, b2, u2, e2, g2⟩ := pGrab_eq v1 i1 4
  obtain ⟨l2, inn2, ls2, i2⟩ := g2.inv hL (by rw [l1]; exact hn) i1
  have no1 : ¬ firstF ls1 4 1 (slotsC 4).toNat = -1 := fun h => by
    rcases first_cls i1 (by omega) h with ⟨_, h⟩ | ⟨h, _⟩
    · have := h 0 (by omega) (by omega) k1
      omega
    · omega
  have f2 : b2 = true ∧ a2 = L.at_10 + 16 := by
    cases g2 with
    | no h =>
      rcases h with h | ⟨h, _⟩
      · omega
      · exact (no1 h).elim
    | @old p m i hc hp hf hb hi h0 =>
      rcases first_cls i1 hc hf with ⟨e, _⟩ | ⟨hp, ⟨m', f⟩, _⟩
      · omega
      · have hk := f.kind
        have ep : p = 0 := by
          have h : p = 0 ∨ p = 1 := by omega
          rcases h with h | h
          · exact h
          · subst h; omega
        subst ep
        have em : m = 1 := by omega
        subst em
        have ei : i = 1 := hi.uniq (.inr ⟨by omega, by rw [s4]; decide, by decide, fun k hk => by
          have : k = 0 := by omega
          subst this; decide⟩)
        subst ei
        exact ⟨rfl, by omega⟩
    | new hc hf _ _ _ => exact (no1 hf).elim
  obtain ⟨rfl, ea2⟩ := f2
  obtain ⟨p2, j2, m2, t2⟩ := got_of hL (by rw [l1]; exact hn) i1 g2
  have hp2 := t2.page; have hj2 := t2.num; have ha2 := addr4 t2
  rw [s4] at hj2
  have ep2 : p2 = 0 := by omega
  have ej2 : j2 = 1 := by omega
  subst ep2; subst ej2
  have em2 : m2 = 1 := by
    rcases t2.was with ⟨_, h, _⟩ | ⟨h, _⟩
    · omega
    · omega
  subst em2
  have v2 : VOK L w.length u2 := ⟨hL, by rw [l2, l1], v0.all⟩
  have k2 : kw L u2 0 = 5 := t2.kind
  have b2 : bw L u2 0 = ((3 : Nat) : Int) := t2.bits
  have c2 : cw L u2 0 = 0 := t2.left
  obtain ⟨ok2, oc2, ob2⟩ := t2.other 1 (by omega) (by omega) (by omega)
  obtain ⟨a3, b3, u3, e3, g3⟩ := pGrab_eq v2 i2 4
  obtain ⟨l3, inn3, ls3, i3⟩ := g3.inv hL (by rw [l2, l1]; exact hn) i2
  have f3 : b3 = true ∧ a3 = L.at_10 + 32 := by
    cases g3 with
    | no h =>
      rcases h with h | ⟨_, h⟩
      · omega
      · exact (h 1 (by omega) (by omega) (by omega)).elim
    | @old p m i hc hp hf hb hi h0 =>
      rcases first_cls i2 hc hf with ⟨e, _⟩ | ⟨hp, ⟨m', f⟩, h1, _⟩
      · omega
      · have hk := f.kind
        have h : p = 0 ∨ p = 1 := by omega
        rcases h with h | h <;> subst h <;> omega
    | @new p u hc hf hr hp ht =>
      rcases find_free hr with ⟨h, _⟩ | ⟨hp', hk⟩
      · omega
      · have h : p = 0 ∨ p = 1 := by omega
        rcases h with h | h
        · subst h; omega
        · subst h; exact ⟨rfl, by omega⟩
  obtain ⟨rfl, ea3⟩ := f3
  obtain ⟨p3, j3, m3, t3⟩ := got_of hL (by rw [l2, l1]; exact hn) i2 g3
  have hp3 := t3.page; have hj3 := t3.num; have ha3 := addr4 t3
  rw [s4] at hj3
  have ep3 : p3 = 1 := by omega
  have ej3 : j3 = 0 := by omega
  subst ep3; subst ej3
  have em3 : m3 = 0 := by
    rcases t3.was with ⟨h, _⟩ | ⟨_, _, _, h⟩
    · omega
    · exact h
  subst em3
  have v3 : VOK L w.length u3 := ⟨hL, by rw [l3, l2, l1], v0.all⟩
  have k3 : kw L u3 1 = 5 := t3.kind
  have b3 : bw L u3 1 = ((1 : Nat) : Int) := t3.bits
  obtain ⟨ok3, oc3, ob3⟩ := t3.other 0 (by omega) (by omega) (by omega)
  have hfree : freeN L u3 4 L.c.Pages.toNat = 1 := by
    rw [hP]
    show freeN L u3 4 2 = 1
    simp only [freeN]
    rw [if_pos ⟨by omega, show kw L u3 ((0 : Nat) : Int) = 4 + 1 by have : kw L u3 ((0 : Nat) : Int) = kw L u3 0 := rfl; omega⟩, if_pos ⟨by omega, show kw L u3 ((1 : Nat) : Int) = 4 + 1 from k3⟩]
    have h0 : bw L u3 ((0 : Nat) : Int) = ((3 : Nat) : Int) := by have : bw L u3 ((0 : Nat) : Int) = bw L u3 0 := rfl; omega
    have h1 : bw L u3 ((1 : Nat) : Int) = ((1 : Nat) : Int) := b3
    rw [h0, h1, s4]
    decide
  have hrun : y48 w.length w L 0 0 0 0 = some (u3, a1, a2, a3, 1) := by
    unfold y48
    have r0 : y58 w.length L 0 w 0 0 0 0 = some (.inl (1, u1, a1, 0, 0, 0)) := by
      simp only [y58]
      rw [e1]; rfl
    have r1 : y58 w.length L 1 u1 a1 0 0 0 = some (.inl (2, u2, a1, a2, 0, 0)) := by
      simp only [y58]
      rw [e2]; rfl
    have r2 : y58 w.length L 2 u2 a1 a2 0 0 = some (.inl (3, u3, a1, a2, a3, 0)) := by
      simp only [y58]
      rw [e3]; rfl
    have r3 : y58 w.length L 3 u3 a1 a2 a3 0 = some (.inr (u3, a1, a2, a3, 1)) := by
      simp only [y58]
      rw [pFree_eq v3 i3, hfree]; rfl
    exact (loopO_go r0).trans ((loopO_go r1).trans ((loopO_go r2).trans (loopO_end r3)))
  rw [hrun, Option.bind_some]
  simp only [beq_self_eq_true, cond_true, User_eq, Option.bind_some]
  rw [wrap_id (x := a1 + 16) (by omega) (by omega), wrap_id (x := a1 + 32) (by omega) (by omega), beq_iff_eq.2 ea1, beq_iff_eq.2 (show a2 = a1 + 16 by omega), beq_iff_eq.2 (show a3 = a1 + 32 by omega)]
  rfl
theorem PagesPlays_main (c : yb) (acts : List (List Int)) : y5q c acts = some true := by
  unfold y5q
  by_cases hl : (acts.length : Int) > 100
  · rw [decide_eq_true hl, cond_true, lives11_eq]; rfl
  rw [decide_eq_false hl, cond_false]
  obtain ⟨d, hR, hB⟩ := Begin_eq c
  have hL := layC_ok hR
  have hw := hL.words11
  have hlen : (List.replicate (layC d).at_11.toNat (0 : Int)).length = (layC d).at_11.toNat := by simp
  rw [hB, Option.bind_some]
  simp only
  rw [decide_eq_true (by rw [hlen]; omega), cond_true]
  obtain ⟨r, k1, rfl⟩ := loopO_ind (step := fun s : List Int × List Int × List Int × Int => y6k acts (layC d) ⟨d⟩ s.1 s.2.1 s.2.2.1 s.2.2.2)
    (I := fun s => ∃ j : Nat, j ≤ acts.length ∧ s.2.2.2 = j ∧ s.2.1 = s.1 ∧ s.1.length = (layC d).at_11.toNat ∧ s.2.2.1.length ≤ j ∧ ∃ inn ls, Inv11 (layC d) s.1 inn ls) (μ := fun s => acts.length - s.2.2.2.toNat) (fun r => r = true) (by
      rintro ⟨w, w2, b, _⟩ ⟨j, hj, rfl, e1, e2, hb, inn, ls, i⟩
      simp only at e1 e2 hb i ⊢
      subst e1
      have v : VOK (layC d) w2.length w2 := ⟨hL, rfl, by omega⟩
      simp only [y6k]
      by_cases cc : j < acts.length
      · have ho : offs (j : Int) 0 = (j : Int) := rfl
        simp only [ho, inR_nat cc, cond_true, Int.toNat_natCast, acts3 j cc, rUser_eq hR, Option.bind_some]
        rw [decide_eq_true (show (j : Int) < (acts.length : Int) by omega), cond_true, Nat.ble_eq_true_of_le (by omega)]
        obtain ⟨x, e3⟩ := bat_eq (layC d).at_10 ⟨acts[j].getD 0 0, acts[j].getD 1 0, acts[j].getD 2 0⟩ (b := b) (by omega)
        obtain ⟨⟨r0, r1, r2, r3, u⟩, d1, d2, d3, inn2, ls2, d4⟩ := same11 hR v i ⟨acts[j].getD 0 0, acts[j].getD 1 0, acts[j].getD 2 0⟩ x
        simp only at d3 d4
        obtain ⟨y, e4, e5⟩ := without_eq x (b := b) (by omega)
        have ea : decide (b.length + 1 ≤ 1048576) = true := decide_eq_true (by omega)
        rw [e3, Option.bind_some]
        unfold y1m
        simp only [ho, inR_nat cc, cond_true, Int.toNat_natCast, acts3 j cc, d1, d2, Option.bind_some, beq_self_eq_true, Bool.and_true, Bool.and_self, Bool.not_true, cond_false]
        rw [Same_eq (by omega), Option.bind_some, decide_eq_true rfl, Bool.not_true, cond_false, wrap_succ (by omega)]
        simp only [ea, e4, Option.bind_some, cond_true]
        have push : ∃ j' : Nat, j' ≤ acts.length ∧ ((j + 1 : Nat) : Int) = j' ∧ u = u ∧ u.length = (layC d).at_11.toNat ∧ (b ++ [r0]).length ≤ j' ∧ ∃ inn ls, Inv11 (layC d) u inn ls := ⟨j + 1, cc, rfl, rfl, by omega, by simp; omega, _, _, d4⟩
        have cut : ∃ j' : Nat, j' ≤ acts.length ∧ ((j + 1 : Nat) : Int) = j' ∧ u = u ∧ u.length = (layC d).at_11.toNat ∧ y.length ≤ j' ∧ ∃ inn ls, Inv11 (layC d) u inn ls := ⟨j + 1, cc, rfl, rfl, by omega, by omega, _, _, d4⟩
        have stay : ∃ j' : Nat, j' ≤ acts.length ∧ ((j + 1 : Nat) : Int) = j' ∧ u = u ∧ u.length = (layC d).at_11.toNat ∧ b.length ≤ j' ∧ ∃ inn ls, Inv11 (layC d) u inn ls := ⟨j + 1, cc, rfl, rfl, by omega, by omega, _, _, d4⟩
        have mu : acts.length - ((j + 1 : Nat) : Int).toNat < acts.length - (j : Int).toNat := by omega
        generalize decide (acts[j].getD 0 0 ≥ 0) = t1
        generalize decide (acts[j].getD 0 0 < 2) = t2
        generalize decide (acts[j].getD 0 0 ≥ 2) = t3
        generalize decide (acts[j].getD 0 0 < 4) = t4
        generalize (r1 == 1) = t5
        generalize (r0 == 1) = t6
        cases t1 <;> cases t2 <;> cases t3 <;> cases t4 <;> cases t5 <;> cases t6 <;> simp only [cond_true, cond_false] <;> first | exact .inl ⟨_, rfl, push, mu⟩ | exact .inl ⟨_, rfl, cut, mu⟩ | exact .inl ⟨_, rfl, stay, mu⟩
      · rw [decide_eq_false (by omega), cond_false, lives11_eq]
        exact .inr ⟨_, rfl, rfl⟩) (List.replicate (layC d).at_11.toNat 0, List.replicate (layC d).at_11.toNat 0, [], 0) ⟨0, by omega, rfl, rfl, hlen, by simp, _, _, Inv11.start hL⟩
  exact k1
structure Least11 (L : ya) (w : List Int) (q : Int) (p : Int) (least : Int) (open_ : Bool) : Prop where
  free : open_ = true ↔ ∃ k, 0 ≤ k ∧ k < p ∧ kw L w k = 0
  least : (least = 0 ∧ ∀ k, 0 ≤ k → k < p → (0 ≤ q ∧ q < 5) → kw L w k = q + 1 → cw L w k = 0) ∨
    (0 < least ∧ (0 ≤ q ∧ q < 5) ∧ (∃ k, 0 ≤ k ∧ k < p ∧ kw L w k = q + 1 ∧ cw L w k = least) ∧ ∀ k, 0 ≤ k → k < p → kw L w k = q + 1 → cw L w k = 0 ∨ least ≤ cw L w k)
section
variable {L : ya} {w inn : List Int} {ls : Int → Int → List Int}
end
end Go.Rx
end

section
namespace Go.Rx
open Go.ChangeShapes Go.WideShapes Go.ChangeAt Go.RowKit
inductive AK where
  | row (tg : Nat)
  | el (tg : Nat)
def elWf (tg : Nat) (e : El tg) : Prop := ∀ k n, Value.int k n ∈ elEnc tg e → (Lit.int k n).wf = true
def elV : (tg : Nat) → El tg → V
  | 0, (n : Int) => vi n
  | 1, (b : Bool) => vb b
  | t, e => .agg ((elEnc t e).map .ext)
def ArgsOf : List AK → Nat → List V → Heap → Prop
  | [], _, ags, H => ags = [] ∧ H = []
  | .row tg :: ks, n, ags, H => ∃ (l : List (El tg)) (ags' : List V) (H' : Heap), ags = .row n :: ags' ∧ H = .row tg l true :: H' ∧ (∀ e ∈ l, elWf tg e) ∧ l.length ≤ maxLen ∧ ArgsOf ks (n + 1) ags' H'
  | .el tg :: ks, n, ags, H => ∃ (e : El tg) (ags' : List V), ags = elV tg e :: ags' ∧ elWf tg e ∧ ArgsOf ks n ags' H
def lawS (ks : List AK) : Spec where
  tr := fun args H K => ArgsOf ks 0 args H ∧ ∀ H', K (vb true) H'
section
variable {P : Program} {elT : ET}
structure ElOK (P : Program) (elT : ET) (tg : Nat) : Prop where
  cells : P.cellsOf (elT tg) = elM tg
  reads : ∀ {H : Type} (enc : TypeId × Value → H) (W : World) (base : Nat) (sp : Nat → Bool) (held : Bool) (fuel : Nat) (cs : List Value) (x : DataW H × List MemPlace),
    DataW.trod enc P W base sp held fuel (elT tg) cs = some x → ∃ e : El tg, cs = elEnc tg e ∧ elWf tg e
  value : ∀ (W : World) (r : Reach) (b : Nat) (v : Value) (e : El tg), Value.okWide P W r b (elT tg) v → v.cells.toList = elEnc tg e → ∀ ρ, (elV tg e).den ρ = some v
variable {H : Type} {enc : TypeId × Value → H} {W : World} {sp : Nat → Bool} {held : Bool}
theorem open_row {tg : Nat} (ok : ElOK P elT tg) {t : TypeId} (ht : P.underlying t = some (.slice (elT tg))) {r : Reach} {b0 : Nat} {v : Value} {d : DataW H} {ps : List MemPlace}
    (hval : Value.okWide P W r b0 t v) (hd : DataW.Trod enc P W 0 sp held t v d ps) :
    ∃ (l : List (El tg)) (F : List Nat), (∀ n ∈ F, n < W.heap.size) ∧ (∀ e ∈ l, elWf tg e) ∧ l.length ≤ maxLen ∧ (∃ a cap, v = .slice a l.length cap) ∧ ∀ ρ, (Blk.row tg l true).holds elT ρ W v F := by
  obtain ⟨a, len, cap, rfl⟩ := okWide_slice ht hval
  obtain ⟨fuel, hf⟩ := hd
  rcases Deep.open_slice ht hf with ⟨h, _⟩ | ⟨ad, len', cap', m, n, D, Pl, h, _, hl, hm, hmm, _, hx⟩
  · simp [Value.cells] at h
    obtain ⟨rfl, rfl, rfl⟩ := h
    exact ⟨[], [], by simp, by simp, Nat.zero_le _, ⟨none, 0, rfl⟩, fun ρ => ⟨none, 0, rfl, Nat.le_refl _, Nat.zero_le _, fun _ => rfl, fun j x hj => by simp [flat] at hj⟩⟩
  · simp [Value.cells] at h
    obtain ⟨rfl, rfl, rfl⟩ := h
    have hlm : len ≤ m := by rw [hmm]; split <;> omega
    have key : ∀ i, i < len → ∃ e : El tg, W.cells? 0 (ad.add (i * elM tg)) (elM tg) = some (elEnc tg e) ∧ elWf tg e := by
      intro i hi
      obtain ⟨cs', h1, h2⟩ := hx i (by omega)
      rw [ok.cells] at h1
      obtain ⟨e, he, hw⟩ := ok.reads enc W 0 sp held n cs' _ h2
      exact ⟨e, by rw [h1, he], hw⟩
    haveI : Inhabited (El tg) := ⟨elD tg⟩
    obtain ⟨E, hE⟩ := Deep.choose_lt key
    refine ⟨(List.range len).map E, if ad.block < W.heap.size then [ad.block] else [], ?_, ?_, by simp; omega, ⟨some ad, cap, by simp⟩, fun ρ => ⟨some ad, cap, by simp, by simpa using hl, hm, (fun h => by cases h), fun j x hj => ?_⟩⟩
    · intro n hn
      split at hn
      · rename_i hb; simp at hn; omega
      · simp at hn
    · intro e he
      obtain ⟨i, hi, rfl⟩ := List.mem_map.1 he
      exact (hE i (by simpa using hi)).2
    · have hjl : j < len * elM tg := by
        have := (List.getElem?_eq_some_iff.1 hj).1
        rw [flat_len] at this; simpa using this
      have hM : 0 < elM tg := by
        rcases Nat.eq_zero_or_pos (elM tg) with h | h
        · rw [h] at hjl; simp at hjl
        · exact h
      have hk : j / elM tg < len := (Nat.div_lt_iff_lt_mul hM).2 hjl
      have hr : j % elM tg < elM tg := Nat.mod_lt _ hM
      have hje : j = j / elM tg * elM tg + j % elM tg := by rw [Nat.mul_comm]; exact (Nat.div_add_mod _ _).symm
      rw [hje, flat_get tg _ _ (by simpa using hk) _ hr] at hj
      have hg : ((List.range len).map E).getD (j / elM tg) (elD tg) = E (j / elM tg) := by simp [List.getD, hk]
      rw [hg] at hj
      obtain ⟨_, _, hc⟩ := World.cells?_some (hE _ hk).1
      have := hc _ hr
      rw [hj, Deep.add_add, ← hje] at this
      refine ⟨ad, rfl, ?_, this⟩
      have hb : (ad.add j).block = ad.block := block_add ad j
      have hlt : ad.block < W.heap.size := by
        rcases Nat.lt_or_ge ad.block W.heap.size with h | h
        · exact h
        · rw [← hb] at h
          simp [World.cell?, Array.getElem?_eq_none h] at this
      simp [hlt]
def AKOK (P : Program) (elT : ET) : AK → TypeId → Prop
  | .row tg, t => P.underlying t = some (.slice (elT tg)) ∧ ElOK P elT tg
  | .el tg, t => t = elT tg ∧ ElOK P elT tg
def AKsOK (P : Program) (elT : ET) : List AK → List TypeId → Prop
  | [], [] => True
  | k :: ks, t :: ts => AKOK P elT k t ∧ AKsOK P elT ks ts
  | _, _ => False
theorem open_args : ∀ (ks : List AK) (ts : List TypeId) (vs : List Value) (ds : List (DataW H)) (ps : List MemPlace) (r : Reach) (b0 : Nat), AKsOK P elT ks ts →
    (∀ (j : Nat) t v, ts[j]? = some t → vs[j]? = some v → Value.okWide P W r b0 t v) → DataW.TrodAll enc P W 0 sp held ts vs ds ps → ∀ (ρ : List Value) (F : Nat → List Nat) (H0 : Heap), Sat elT ρ F H0 W → (∀ b ∈ H0, b.writable = false) →
    ∃ (ags : List V) (H1 : Heap) (ρ' : List Value) (F' : Nat → List Nat), ArgsOf ks ρ.length ags H1 ∧ denL ρ' ags = some vs ∧ Sat elT ρ' F' (H0 ++ H1) W ∧ (∀ b ∈ H0 ++ H1, b.writable = false) ∧ Le ρ ρ'
  | [], ts, vs, ds, ps, r, b0, hk, _, hd, ρ, F, H0, hs, hw => by
    cases ts with
    | cons t ts => exact hk.elim
    | nil =>
      obtain ⟨rfl, rfl, rfl⟩ := trodAll_nil hd
      exact ⟨[], [], ρ, F, ⟨rfl, rfl⟩, rfl, by simpa using hs, by simpa using hw, Le.refl ρ⟩
  | k :: ks, ts, vs, ds, ps, r, b0, hk, hval, hd, ρ, F, H0, hs, hw => by
    cases ts with
    | nil => exact hk.elim
    | cons t ts =>
      obtain ⟨hk1, hk2⟩ := hk
      obtain ⟨v, vs', d, ds', p, q, rfl, rfl, rfl, h1, h2⟩ := trodAll_cons hd
      have hv := hval 0 t v rfl rfl
      have hval' : ∀ (j : Nat) t v, ts[j]? = some t → vs'[j]? = some v → Value.okWide P W r b0 t v := fun j t v a b => hval (j + 1) t v (by simpa using a) (by simpa using b)
      cases k with
      | row tg =>
        obtain ⟨ht, ok⟩ := hk1
        obtain ⟨l, G, hG, hwf, hml, ⟨a, cap, hv2⟩, hh⟩ := open_row ok ht hv h1
        have hlen := hs.len
        have hs1 : Sat elT (ρ ++ [v]) (fset F H0.length G) (H0 ++ [.row tg l true]) W := by
          refine ⟨by simp [hlen], ?_, ?_, ?_⟩
          · intro i b x hb hx
            rcases push_get hb with ⟨hi, hb⟩ | ⟨rfl, rfl⟩
            · have hx' : ρ[i]? = some x := by rw [List.getElem?_append_left (by omega)] at hx; exact hx
              have e : fset F H0.length G i = F i := by unfold fset; rw [if_neg (by omega)]
              rw [e]
              exact Blk.holds_le (by intro i x h; exact List.getElem?_append_left (List.getElem?_eq_some_iff.1 h).1 ▸ h) (fun _ _ => rfl) b (hs.each i b x hb hx')
            · have hx' : x = v := by
                rw [List.getElem?_append_right (by omega)] at hx
                rw [show H0.length - ρ.length = 0 by omega] at hx
                simpa using hx.symm
              subst hx'
              have e : fset F H0.length G H0.length = G := by simp [fset]
              rw [e]
              exact hh _
          · intro i b hb n hn
            rcases push_get hb with ⟨hi, hb⟩ | ⟨rfl, rfl⟩
            · have e : fset F H0.length G i = F i := by unfold fset; rw [if_neg (by omega)]
              rw [e] at hn
              exact hs.lt i b hb n hn
            · have e : fset F H0.length G H0.length = G := by simp [fset]
              rw [e] at hn
              exact hG n hn
          · intro i j bi bj hbi hbj hij hwi
            exfalso
            have hm := List.mem_of_getElem? hbi
            rcases List.mem_append.1 hm with hm | hm
            · rw [hw bi hm] at hwi; cases hwi
            · simp at hm; subst hm; cases hwi
        have hw1 : ∀ b ∈ H0 ++ [Blk.row tg l true], b.writable = false := by
          intro b hb
          rcases List.mem_append.1 hb with hb | hb
          · exact hw b hb
          · simp at hb; subst hb; rfl
        obtain ⟨ags, H1, ρ', F', g1, g2, g3, g4, g5⟩ := open_args ks ts vs' ds' q r b0 hk2 hval' h2 _ _ _ hs1 hw1
        have hρ : ρ'[ρ.length]? = some v := g5 _ _ (by simp)
        refine ⟨.row ρ.length :: ags, .row tg l true :: H1, ρ', F', ⟨l, ags, H1, rfl, rfl, hwf, hml, by simpa using g1⟩, ?_, by simpa using g3, by simpa using g4, ?_⟩
        · have e : (V.row ρ.length).den ρ' = some v := by subst hv2; simp only [V.den, hρ]
          simp only [denL, e, g2]
        · intro i x hx
          exact g5 i x (by rw [List.getElem?_append_left (List.getElem?_eq_some_iff.1 hx).1]; exact hx)
      | el tg =>
        obtain ⟨rfl, ok⟩ := hk1
        obtain ⟨fuel, hf⟩ := h1
        obtain ⟨e, he, hwf⟩ := ok.reads enc W 0 sp held fuel _ _ hf
        obtain ⟨ags, H1, ρ', F', g1, g2, g3, g4, g5⟩ := open_args ks ts vs' ds' q r b0 hk2 hval' h2 ρ F H0 hs hw
        refine ⟨elV tg e :: ags, H1, ρ', F', ⟨e, ags, rfl, hwf, g1⟩, ?_, g3, g4, g5⟩
        simp only [denL, ok.value W r b0 v e hv he ρ', g2]
theorem trodAll_stays (hl : laidOutB P = true) {W' : World} {sp' : Nat → Bool} : ∀ {ts : List TypeId} {vs : List Value} {ds : List (DataW H)} {ps : List MemPlace}, ts.all (fun t => P.readableRec t && decide (t < P.types.size)) = true →
    DataW.TrodAll enc P W 0 (fun _ => true) true ts vs ds ps → (∀ x ∈ ps, W.sameAt W' x) → (∀ x ∈ ps, sp' x.block = true) → DataW.TrodAll enc P W' 0 sp' true ts vs ds ps
  | [], vs, ds, ps, _, h, _, _ => by
    obtain ⟨rfl, rfl, rfl⟩ := trodAll_nil h
    rfl
  | t :: ts, vs, ds, ps, hr, h, h1, h2 => by
    obtain ⟨v, vs', d, ds', p, q, rfl, rfl, rfl, g1, g2⟩ := trodAll_cons h
    simp only [List.all_cons, Bool.and_eq_true, decide_eq_true_eq] at hr
    exact ⟨p, q, WideElems.Trod_stays hl hr.1.1 hr.1.2 g1 (fun x hx => h1 x (by simp [hx])) (fun x hx => h2 x (by simp [hx])),
      trodAll_stays hl hr.2 g2 (fun x hx => h1 x (by simp [hx])) (fun x hx => h2 x (by simp [hx])), rfl⟩
theorem post_law {f : Func} {s : ChangeSpec} {apart fresh handsOn : Bool} {tb : TypeId} (hl : laidOutB P = true) (htb : P.underlying tb = some .bool) (hres : f.resultTypes = #[tb]) (hall : f.params.toList.all (fun t => P.readableRec t && decide (t < P.types.size)) = true)
    (hsv : s.vars = []) (hsp : ∀ ds : List (DataW H), ds.length = f.params.toList.length → s.fn H ds = { results := [.lit (.bool true)], args := ds })
    {W W' : World} {args : Array Value} {ds gs : List (DataW H)} {before : List MemPlace} (hW : DataW.Whole enc P f.params.toList s.vars apart W args.toList ds gs before) (hb : Below W.heap.size W W') :
    s.post enc P f apart fresh handsOn false W args (.bool true) W' := by
  have hlt : ∀ p ∈ before, p.block < W.heap.size := fun p hp => hW.lt p hp
  have hW' := hW
  obtain ⟨p, q, hA, hV, rfl, hfz, hnd⟩ := hW
  rw [hsv] at hV
  obtain ⟨rfl, rfl⟩ := trodVars_none hV
  have hlen : ∀ (ts : List TypeId) (vs : List Value) (ds : List (DataW H)) (ps : List MemPlace), DataW.TrodAll enc P W 0 (fun _ => true) true ts vs ds ps → ds.length = ts.length := by
    intro ts
    induction ts with
    | nil => intro vs ds ps h; obtain ⟨rfl, rfl, rfl⟩ := trodAll_nil h; rfl
    | cons t ts ih =>
      intro vs ds ps h
      obtain ⟨v, vs', d, ds', p, q, rfl, rfl, rfl, g1, g2⟩ := trodAll_cons h
      simp [ih _ _ _ g2]
  have hfn : s.fn H (ds ++ []) = { results := [.lit (.bool true)], args := ds } := by rw [List.append_nil]; exact hsp ds (hlen _ _ _ _ hA)
  refine ⟨ds, [], p ++ [], [], p, [], hW', ?_, ?_, ?_, hb.frame _, fun h => by cases h⟩
  · rw [hfn, hres]
    exact trodAll_mk1 (shut_bool htb true)
  · rw [hfn]
    exact trodAll_stays hl hall hA (fun x hx => hb.same (hlt x (by simpa using hx))) (fun x hx => by simpa using hlt x (by simpa using hx))
  · rw [hfn, hsv]
    rfl
theorem ym9 {f : Func} {s : ChangeSpec} {apart fresh handsOn : Bool} {tb : TypeId} {g : FuncId} {ks : List AK} (hspec : SpecOK P elT g (lawS ks)) (hk : AKsOK P elT ks f.params.toList)
    (hl : laidOutB P = true) (htb : P.underlying tb = some .bool) (hres : f.resultTypes = #[tb]) (hall : f.params.toList.all (fun t => P.readableRec t && decide (t < P.types.size)) = true)
    (hsv : s.vars = []) (hsp : ∀ ds : List (DataW H), ds.length = f.params.toList.length → s.fn H ds = { results := [.lit (.bool true)], args := ds })
    {W : World} {r : Reach} {base : Nat} {args : Array Value} {ds gs : List (DataW H)} {before : List MemPlace} (hval : ∀ (j : Nat) t v, f.params[j]? = some t → args[j]? = some v → Value.okWide P W r base t v)
    (hW : DataW.Whole enc P f.params.toList s.vars apart W args.toList ds gs before) :
    Calls P g args W fun e W' => ∃ v, e = .returned v ∧ s.post enc P f apart fresh handsOn false W args v W' := by
  have hW' := hW
  obtain ⟨p, q, hA, _⟩ := hW
  have h0 : Sat elT [] (fun _ => []) [] W := ⟨rfl, fun i b x hb => by simp at hb, fun i b hb => by simp at hb, fun i j bi bj hb => by simp at hb⟩
  obtain ⟨ags, H1, ρ, F, g1, g2, g3, g4, _⟩ := open_args ks f.params.toList args.toList ds p r base hk (fun j t v a b => hval j t v (by simpa using a) (by simpa using b)) hA [] (fun _ => []) [] h0 (by simp)
  have hc := hspec.2 ags H1 (fun v _ => v = vb true) ⟨g1, fun _ => rfl⟩ ρ F W args.toList g2 (by simpa using g3)
  rw [Array.toArray_toList] at hc
  refine hc.mono fun e W' h => ?_
  obtain ⟨v, x, ρ', F', H', rfl, rfl, hr, _, _, hfr⟩ := h
  have hx : x = .bool true := den_ext hr
  subst hx
  have hnw : ∀ (i : Nat) (b : Blk), H1[i]? = some b → b.writable = true → False := fun i b hb hw => by
    have := g4 b (by simpa using List.mem_of_getElem? hb)
    rw [this] at hw; cases hw
  have hb : Below W.heap.size W W' := ⟨hfr.os, hfr.tape, hfr.output, hfr.size, fun n hn => hfr.block n hn (fun i b hb hw => (hnw i b hb hw).elim)⟩
  exact ⟨_, rfl, post_law hl htb hres hall hsv hsp hW' hb⟩
end
def flatFs (P : Program) (rec : TypeId → Option (List Bool)) : List Field → Nat → Option (List Bool)
  | [], _ => some []
  | f :: fs, o => match rec f.type with
    | none => none
    | some a => bif Nat.beq f.offset o && Nat.beq (P.cellsOf f.type) a.length then match flatFs P rec fs (o + a.length) with
      | some b => some (a ++ b)
      | none => none
      else none
def flatK (P : Program) : Nat → TypeId → Option (List Bool)
  | 0, _ => none
  | n + 1, t => match P.underlying t with
    | some .bool => some [false]
    | some (.int .i64) => some [true]
    | some (.struct fs) => match flatFs P (flatK P n) fs.toList 0 with
      | some ks => bif Nat.beq (P.cellsOf t) ks.length then some ks else none
      | none => none
    | _ => none
def goodCell (b : Bool) (v : Option Value) : Prop := match b with
  | true => ∃ n, v = some (.int .i64 n) ∧ (Lit.int .i64 n).wf = true
  | false => ∃ c, v = some (.bool c)
section
variable {P : Program} {elT : ET} {H : Type} {enc : TypeId × Value → H} {W : World} {sp : Nat → Bool} {held : Bool}
theorem flatFs_good {rec : TypeId → Option (List Bool)} {base : Nat} {cs : List Value} (hrec : ∀ t ks fuel cs (x : DataW H × List MemPlace), rec t = some ks → DataW.trod enc P W base sp held fuel t cs = some x → cs.length = ks.length ∧ ∀ (i : Nat) (b : Bool), ks[i]? = some b → goodCell b cs[i]?) {n : Nat} :
    ∀ (fl : List Field) (o : Nat) (ks : List Bool), (∀ f ∈ fl, ∃ y, DataW.trod enc P W base sp held n f.type ((cs.drop f.offset).take (P.cellsOf f.type)) = some y) → flatFs P rec fl o = some ks → ∀ (i : Nat) (b : Bool), ks[i]? = some b → goodCell b cs[o + i]?
  | [], o, ks, _, h, i, b, hb => by simp only [flatFs, Option.some.injEq] at h; subst h; simp at hb
  | f :: fl, o, ks, hall, h, i, b, hb => by
    simp only [flatFs] at h
    split at h
    · cases h
    · rename_i a ha
      cases hc : (Nat.beq f.offset o && Nat.beq (P.cellsOf f.type) a.length) with
      | false => rw [hc] at h; cases h
      | true =>
        rw [hc] at h
        simp only [cond_true] at h
        simp only [Bool.and_eq_true] at hc
        have e1 := Nat.eq_of_beq_eq_true hc.1
        have e2 := Nat.eq_of_beq_eq_true hc.2
        split at h
        · rename_i b' hb'
          injection h with h
          subst h
          rcases Nat.lt_or_ge i a.length with hi | hi
          · rw [List.getElem?_append_left hi] at hb
            obtain ⟨y, hy⟩ := hall f (by simp)
            have hg := (hrec f.type a n _ y ha hy).2 i b hb
            rw [e1, e2, List.getElem?_take, if_pos hi, List.getElem?_drop] at hg
            exact hg
          · rw [List.getElem?_append_right hi] at hb
            have := flatFs_good hrec fl (o + a.length) b' (fun f hf => hall f (by simp [hf])) hb' (i - a.length) b hb
            rw [show o + a.length + (i - a.length) = o + i by omega] at this
            exact this
        · cases h
theorem flatK_good {base : Nat} : ∀ (n : Nat) (t : TypeId) (ks : List Bool) (fuel : Nat) (cs : List Value) (x : DataW H × List MemPlace), flatK P n t = some ks → DataW.trod enc P W base sp held fuel t cs = some x →
    cs.length = ks.length ∧ ∀ (i : Nat) (b : Bool), ks[i]? = some b → goodCell b cs[i]?
  | 0, t, ks, fuel, cs, x, h, _ => by cases h
  | n + 1, t, ks, fuel, cs, x, h, hx => by
    simp only [flatK] at h
    split at h
    · rename_i ht
      injection h with h; subst h
      obtain ⟨b, rfl, _⟩ := DataW.trod_bool ht hx
      refine ⟨rfl, fun i b' hb => ?_⟩
      cases i with
      | zero => simp at hb; subst hb; exact ⟨b, rfl⟩
      | succ i => simp at hb
    · rename_i ht
      injection h with h; subst h
      obtain ⟨m, rfl, _, hw⟩ := DataW.trod_int ht hx
      refine ⟨rfl, fun i b' hb => ?_⟩
      cases i with
      | zero => simp at hb; subst hb; exact ⟨m, rfl, hw⟩
      | succ i => simp at hb
    · rename_i fs ht
      split at h
      · rename_i ks' hks
        cases hc : Nat.beq (P.cellsOf t) ks'.length with
        | false => rw [hc] at h; cases h
        | true =>
          rw [hc] at h
          injection h with h; subst h
          obtain ⟨xs, m, _, _, hlen, hxs, hall⟩ := DataW.trod_struct ht hx
          refine ⟨by rw [hlen, Nat.eq_of_beq_eq_true hc], fun i b hb => ?_⟩
          have := flatFs_good (enc := enc) (W := W) (sp := sp) (held := held) (base := base) (cs := cs) (n := m) (fun t ks fuel cs x a b => flatK_good n t ks fuel cs x a b) fs.toList 0 ks' (fun f hf => by
            obtain ⟨k, hk⟩ := List.getElem?_of_mem hf
            rw [Array.getElem?_toList] at hk
            have h1 := hall k f hk
            have hi : k < fs.size := (Array.getElem?_eq_some_iff.1 hk).1
            rw [List.getElem?_eq_getElem (by omega)] at h1
            exact ⟨_, h1⟩) hks i b hb
          rwa [Nat.zero_add] at this
      · cases h
    · cases h
theorem struct_value {tg : Nat} {e : El tg} {fs : Array Field} {W : World} {r : Reach} {b : Nat} {v : Value} (ht : P.underlying (elT tg) = some (.struct fs)) (hv : Value.okWide P W r b (elT tg) v) (hcs : v.cells.toList = elEnc tg e) (ρ : List Value) :
    (V.agg ((elEnc tg e).map .ext)).den ρ = some v := by
  obtain ⟨cs, rfl, _⟩ := okWide_struct ht hv
  simp only [Value.cells] at hcs
  simp only [V.den, denL_ext]
  rw [← hcs]
end
end Go.Rx
end

section
namespace Go.Rx
open Go.ChangeShapes Go.WideShapes
theorem elOK_ints {P : Program} {elT : ET} {fs : Array Field} {m : Nat} (ht : P.underlying (elT (m + 4)) = some (.struct fs)) (hc : P.cellsOf (elT (m + 4)) = m % 32 + 1)
    (hf : flatK P 6 (elT (m + 4)) = some (List.replicate (m % 32 + 1) true)) : ElOK P elT (m + 4) := by
  refine ⟨hc, fun enc W base sp held fuel cs x h => ?_, fun W r b v e hv hcs ρ => struct_value ht hv hcs ρ⟩
  obtain ⟨hlen, hg⟩ := flatK_good 6 (elT (m + 4)) _ fuel cs x hf h
  rw [List.length_replicate] at hlen
  have hI : ∀ i, i < m % 32 + 1 → ∃ n, cs[i]? = some (.int .i64 n) ∧ (Lit.int .i64 n).wf = true := fun i hi => hg i true (by rw [List.getElem?_replicate, if_pos hi])
  obtain ⟨N, hN⟩ := Deep.choose_lt hI
  have hget : ∀ i, i < m % 32 + 1 → ((List.range (m % 32 + 1)).map N).getD i 0 = N i := fun i hi => by simp [List.getD, hi]
  have hcs : cs = elEnc (m + 4) ((List.range (m % 32 + 1)).map N : List Int) := by
    show cs = (List.range (m % 32 + 1)).map fun i => i64 (((List.range (m % 32 + 1)).map N).getD i 0)
    apply List.ext_getElem?
    intro i
    rcases Nat.lt_or_ge i (m % 32 + 1) with hi | hi
    · rw [(hN i hi).1, List.getElem?_map, List.getElem?_range hi, Option.map_some, hget i hi]
    · rw [List.getElem?_eq_none (by omega), List.getElem?_eq_none (by simpa using hi)]
  refine ⟨_, hcs, fun k n hm => ?_⟩
  have hm' : Value.int k n ∈ cs := by rw [hcs]; exact hm
  obtain ⟨i, hi⟩ := List.getElem?_of_mem hm'
  have hil : i < m % 32 + 1 := by rw [← hlen]; exact (List.getElem?_eq_some_iff.1 hi).1
  obtain ⟨h1, h2⟩ := hN i hil
  rw [h1] at hi
  injection hi with hi
  injection hi with e1 e2
  subst e1; subst e2
  exact h2
end Go.Rx
end

section
namespace Go.Rx
open Go.Proofs
theorem ypf : SpecOK Tryz.prog elTT 3 (lawS [.el 14, .row 6]) := spec_mono (fun args H K h => by
  obtain ⟨ha, hk⟩ := h
  obtain ⟨e0, _, rfl, hw0, l1, _, _, rfl, rfl, hw1, hn1, rfl, rfl⟩ := ha
  show So (y5q (⟨List.getD (e0 : List Int) 0 0, List.getD (e0 : List Int) 1 0, List.getD (e0 : List Int) 2 0, List.getD (e0 : List Int) 3 0, List.getD (e0 : List Int) 4 0, List.getD (e0 : List Int) 5 0, List.getD (e0 : List Int) 6 0, List.getD (e0 : List Int) 7 0, List.getD (e0 : List Int) 8 0, List.getD (e0 : List Int) 9 0, List.getD (e0 : List Int) 10 0⟩ : yb) l1) _
  exact So_eq (PagesPlays_main _ _) (hk _)) yn2
end Go.Rx
end
