/- What the row's text of this claim stands on, part 5: the symbolic executor, contracts of the program's functions, plain facts. No condition. -/
import Derived.WalkKit
import Derived.ProofKit
import Derived.OpenShut
import Derived.Carry
import Derived.Deep.Slices
import Derived.JoinedOf
import Derived.Test.YtgogaoelkdjajaaK09pD
section
/- Contracts. -/
namespace Go.Rx
open Go.Proofs
set_option maxRecDepth 100000
set_option maxHeartbeats 4000000
/-! assart/assartlaw09.number -/
def tr_law09_number (m_ : Bool → Option (Int)) (args : List V) (H : Heap) (K : V → Heap → Prop) : Prop :=
  aC args fun a0 r => aN r <| aBool a0 fun isv => aN H <| So (m_ isv) fun x => K (vi (x)) []
def sp_law09_number (m_ : Bool → Option (Int)) : Spec := ⟨tr_law09_number m_, (true : Bool)⟩

/-! assart/assartlaw09.done -/
def tr_law09_done (m_ : Nat → (List Int) → T_layout_Layout → T_assartlaw09_Act → Option (Int × Int × Int × (List Int))) (args : List V) (H : Heap) (K : V → Heap → Prop) : Prop :=
  aC args fun a0 r => aC r fun a1 r => aC r fun a2 r => aN r <| aPtr 0 a0 <| aAgg a1 fun c1 => d_layout_Layout c1 fun l2 => aAgg a2 fun c2 => d_assartlaw09_Act c2 fun a => aC H fun b0 r => aC r fun b1 r => aN r <| bView 1 b0 fun ws cur xs => bRow 0 true b1 fun (l : List Int) => ws = l ∧ xs.length ≤ 2 ∧ So (m_ (ws.length) cur l2 a) fun x => K (.agg [vi (x.1), vi (x.2.1), vi (x.2.2.1)]) [.pk 0 [ws, x.2.2.2] xs [.row 1], .row 0 l true]
def sp_law09_done (m_ : Nat → (List Int) → T_layout_Layout → T_assartlaw09_Act → Option (Int × Int × Int × (List Int))) : Spec := ⟨tr_law09_done m_, (true : Bool)⟩

/-! assart/assartlaw09.told -/
def tr_law09_told (m_ : T_assartref02_Layout → T_assartlaw09_Act → (List Int) → Option (Int × Int × Int × (List Int))) (args : List V) (H : Heap) (K : V → Heap → Prop) : Prop :=
  aC args fun a0 r => aC r fun a1 r => aC r fun a2 r => aN r <| aAgg a0 fun c0 => d_assartref02_Layout c0 fun rv => aRow 0 a1 <| aAgg a2 fun c2 => d_assartlaw09_Act c2 fun a => aC H fun b0 r => aN r <| bRow 0 false b0 fun (w : List Int) => So (m_ rv a w) fun x => K (.agg [vi (x.1), vi (x.2.1), vi (x.2.2.1)]) [.row 0 (x.2.2.2) false]
def sp_law09_told (m_ : T_assartref02_Layout → T_assartlaw09_Act → (List Int) → Option (Int × Int × Int × (List Int))) : Spec := ⟨tr_law09_told m_, (⟨true, fun i => Nat.beq i 0⟩ : RO)⟩

/-! assart/assartlaw09.fits -/
noncomputable def cfg_law09_number  : Cfg := { cfgB with
  sigs := sigN }

noncomputable def cfg_law09_done (m_extent_Find : Nat → (List Int) → T_layout_Layout → Int → Int → Option (Int)) (m_extent_Take : Nat → (List Int) → T_layout_Layout → Int → Int → Int → Option (Bool × (List Int))) (m_law09_number : Bool → Option (Int)) (m_extent_Drop : Nat → (List Int) → T_layout_Layout → Int → Option (Int × (List Int))) (m_extent_Trim : Nat → (List Int) → T_layout_Layout → Option (Int × (List Int))) (m_extent_Kind : Nat → (List Int) → T_layout_Layout → Int → Option (Int)) (m_extent_First : Nat → (List Int) → T_layout_Layout → Int → Option (Int)) (m_extent_Used : Nat → (List Int) → T_layout_Layout → Option (Int)) : Cfg := { cfgB with
  sigs := (sigC 57 (sp_extent_Find m_extent_Find) (sigC 61 (sp_extent_Take m_extent_Take) (sigC 100 (sp_law09_number m_law09_number) (sigC 64 (sp_extent_Drop m_extent_Drop) (sigC 66 (sp_extent_Trim m_extent_Trim) (sigC 62 (sp_extent_Kind m_extent_Kind) (sigC 63 (sp_extent_First m_extent_First) (sigC 60 (sp_extent_Used m_extent_Used) sigN)))))))),
  plan := fun r => match r with | 13 => some ([0, 1, 2, 3, 5, 6, 7, 8, 10, 11, 4, 9, 12, 13, 14], 144) | _ => none,
  flag := fun d => Nat.beq d 6 }

noncomputable def cfg_law09_told (m_ref09_Find : T_assartref02_Layout → Int → Int → (List Int) → Option (Int)) (m_ref09_Take : T_assartref02_Layout → Int → Int → Int → (List Int) → Option (Bool × (List Int))) (m_law09_number : Bool → Option (Int)) (m_ref09_Drop : T_assartref02_Layout → Int → (List Int) → Option (Int × (List Int))) (m_ref09_Trim : T_assartref02_Layout → (List Int) → Option (Int × (List Int))) (m_ref09_Kind : T_assartref02_Layout → Int → (List Int) → Option (Int)) (m_ref09_First : T_assartref02_Layout → Int → (List Int) → Option (Int)) (m_ref09_Used : T_assartref02_Layout → (List Int) → Option (Int)) : Cfg := { cfgB with
  sigs := (sigC 101 (sp_ref09_Find m_ref09_Find) (sigC 102 (sp_ref09_Take m_ref09_Take) (sigC 100 (sp_law09_number m_law09_number) (sigC 103 (sp_ref09_Drop m_ref09_Drop) (sigC 104 (sp_ref09_Trim m_ref09_Trim) (sigC 105 (sp_ref09_Kind m_ref09_Kind) (sigC 106 (sp_ref09_First m_ref09_First) (sigC 107 (sp_ref09_Used m_ref09_Used) sigN)))))))),
  plan := fun r => match r with | 13 => some ([0, 1, 2, 3, 5, 6, 7, 8, 10, 11, 4, 9, 12, 13, 14], 144) | _ => none,
  flag := fun d => Nat.beq d 6 }

theorem nf_law09_number (isv : Bool) (K : V → Heap → Prop) : (exF cfg_law09_number Try.f100 [vb isv] [] K) = (
    br (isv) (K (vi (1)) []) (K (vi (0)) [])) := by
  kernel_rfl

theorem nf_law09_done (m_extent_Find : Nat → (List Int) → T_layout_Layout → Int → Int → Option (Int)) (m_extent_Take : Nat → (List Int) → T_layout_Layout → Int → Int → Int → Option (Bool × (List Int))) (m_law09_number : Bool → Option (Int)) (m_extent_Drop : Nat → (List Int) → T_layout_Layout → Int → Option (Int × (List Int))) (m_extent_Trim : Nat → (List Int) → T_layout_Layout → Option (Int × (List Int))) (m_extent_Kind : Nat → (List Int) → T_layout_Layout → Int → Option (Int)) (m_extent_First : Nat → (List Int) → T_layout_Layout → Int → Option (Int)) (m_extent_Used : Nat → (List Int) → T_layout_Layout → Option (Int)) (ws : List Int) (cur : List Int) (xs : List Value) (l2 : T_layout_Layout) (a : T_assartlaw09_Act) (K : V → Heap → Prop) : (exF (cfg_law09_done m_extent_Find m_extent_Take m_law09_number m_extent_Drop m_extent_Trim m_extent_Kind m_extent_First m_extent_Used) Try.f53 [.ptr 0 0, .agg (e_layout_Layout l2), .agg (e_assartlaw09_Act a)] [.pk 0 [ws, cur] xs [.row 1], .row 0 ws true] K) = (
    br (T_assartlaw09_Act.Kind a == 0) (((ws = ws) ∧ (((List.length xs ≤ 2) ∧ (So (m_extent_Find (List.length ws) cur l2 (T_assartlaw09_Act.N a) (T_assartlaw09_Act.K a)) (fun (y0 : Int) => (K (.agg [vi (y0), vi (0), vi (0)]) [.pk 0 [ws, cur] (xs) [.row 1], .row 0 (ws : List (Int)) Bool.true]))))))) (br (T_assartlaw09_Act.Kind a == 1) (((ws = ws) ∧ (((List.length xs ≤ 2) ∧ (So (m_extent_Take (List.length ws) cur l2 (T_assartlaw09_Act.P a) (T_assartlaw09_Act.N a) (T_assartlaw09_Act.K a)) (fun (y1 : Bool × List Int) => (So (m_law09_number (Prod.fst y1)) (fun (y2 : Int) => (K (.agg [vi (y2), vi (0), vi (0)]) [.pk 0 [ws, Prod.snd y1] (xs) [.row 1], .row 0 (ws : List (Int)) Bool.true]))))))))) (br (T_assartlaw09_Act.Kind a == 2) (((ws = ws) ∧ (((List.length xs ≤ 2) ∧ (So (m_extent_Drop (List.length ws) cur l2 (T_assartlaw09_Act.P a)) (fun (y3 : Int × List Int) => (K (.agg [vi (Prod.fst y3), vi (0), vi (0)]) [.pk 0 [ws, Prod.snd y3] (xs) [.row 1], .row 0 (ws : List (Int)) Bool.true]))))))) (br (T_assartlaw09_Act.Kind a == 3) (((ws = ws) ∧ (((List.length xs ≤ 2) ∧ (So (m_extent_Trim (List.length ws) cur l2) (fun (y4 : Int × List Int) => (K (.agg [vi (Prod.fst y4), vi (0), vi (0)]) [.pk 0 [ws, Prod.snd y4] (xs) [.row 1], .row 0 (ws : List (Int)) Bool.true]))))))) (br (T_assartlaw09_Act.Kind a == 5) (((ws = ws) ∧ (((List.length xs ≤ 2) ∧ (So (m_extent_Find (List.length ws) cur l2 (T_assartlaw09_Act.N a) (T_assartlaw09_Act.K a)) (fun (y5 : Int) => (((ws = ws) ∧ (((List.length xs ≤ 2) ∧ (So (m_extent_Take (List.length ws) cur l2 y5 (T_assartlaw09_Act.N a) 6) (fun (y6 : Bool × List Int) => (So (m_law09_number (Prod.fst y6)) (fun (y7 : Int) => (K (.agg [vi (y5), vi (y7), vi (0)]) [.pk 0 [ws, Prod.snd y6] (xs) [.row 1], .row 0 (ws : List (Int)) Bool.true]))))))))))))))) (((ws = ws) ∧ (((List.length xs ≤ 2) ∧ (So (m_extent_Kind (List.length ws) cur l2 (T_assartlaw09_Act.P a)) (fun (y8 : Int) => (((ws = ws) ∧ (((List.length xs ≤ 2) ∧ (So (m_extent_First (List.length ws) cur l2 (T_assartlaw09_Act.P a)) (fun (y9 : Int) => (((ws = ws) ∧ (((List.length xs ≤ 2) ∧ (So (m_extent_Used (List.length ws) cur l2) (fun (y10 : Int) => (K (.agg [vi (y8), vi (y9), vi (y10)]) [.pk 0 [ws, cur] (xs) [.row 1], .row 0 (ws : List (Int)) Bool.true])))))))))))))))))))))))) := by
  kernel_rfl

theorem nf_law09_told (m_ref09_Find : T_assartref02_Layout → Int → Int → (List Int) → Option (Int)) (m_ref09_Take : T_assartref02_Layout → Int → Int → Int → (List Int) → Option (Bool × (List Int))) (m_law09_number : Bool → Option (Int)) (m_ref09_Drop : T_assartref02_Layout → Int → (List Int) → Option (Int × (List Int))) (m_ref09_Trim : T_assartref02_Layout → (List Int) → Option (Int × (List Int))) (m_ref09_Kind : T_assartref02_Layout → Int → (List Int) → Option (Int)) (m_ref09_First : T_assartref02_Layout → Int → (List Int) → Option (Int)) (m_ref09_Used : T_assartref02_Layout → (List Int) → Option (Int)) (rv : T_assartref02_Layout) (a : T_assartlaw09_Act) (w : List Int) (K : V → Heap → Prop) : (exF (cfg_law09_told m_ref09_Find m_ref09_Take m_law09_number m_ref09_Drop m_ref09_Trim m_ref09_Kind m_ref09_First m_ref09_Used) Try.f54 [.agg (e_assartref02_Layout rv), .row 0, .agg (e_assartlaw09_Act a)] [.row 0 w false] K) = (
    br (T_assartlaw09_Act.Kind a == 0) (So (m_ref09_Find rv (T_assartlaw09_Act.N a) (T_assartlaw09_Act.K a) w) (fun (y0 : Int) => (K (.agg [vi (y0), vi (0), vi (0)]) [.row 0 (w : List (Int)) Bool.false]))) (br (T_assartlaw09_Act.Kind a == 1) (So (m_ref09_Take rv (T_assartlaw09_Act.P a) (T_assartlaw09_Act.N a) (T_assartlaw09_Act.K a) w) (fun (y1 : Bool × List Int) => (So (m_law09_number (Prod.fst y1)) (fun (y2 : Int) => (K (.agg [vi (y2), vi (0), vi (0)]) [.row 0 (Prod.snd y1 : List (Int)) Bool.false]))))) (br (T_assartlaw09_Act.Kind a == 2) (So (m_ref09_Drop rv (T_assartlaw09_Act.P a) w) (fun (y3 : Int × List Int) => (K (.agg [vi (Prod.fst y3), vi (0), vi (0)]) [.row 0 (Prod.snd y3 : List (Int)) Bool.false]))) (br (T_assartlaw09_Act.Kind a == 3) (So (m_ref09_Trim rv w) (fun (y4 : Int × List Int) => (K (.agg [vi (Prod.fst y4), vi (0), vi (0)]) [.row 0 (Prod.snd y4 : List (Int)) Bool.false]))) (br (T_assartlaw09_Act.Kind a == 5) (So (m_ref09_Find rv (T_assartlaw09_Act.N a) (T_assartlaw09_Act.K a) w) (fun (y5 : Int) => (So (m_ref09_Take rv y5 (T_assartlaw09_Act.N a) 6 w) (fun (y6 : Bool × List Int) => (So (m_law09_number (Prod.fst y6)) (fun (y7 : Int) => (K (.agg [vi (y5), vi (y7), vi (0)]) [.row 0 (Prod.snd y6 : List (Int)) Bool.false]))))))) (So (m_ref09_Kind rv (T_assartlaw09_Act.P a) w) (fun (y8 : Int) => (So (m_ref09_First rv (T_assartlaw09_Act.P a) w) (fun (y9 : Int) => (So (m_ref09_Used rv w) (fun (y10 : Int) => (K (.agg [vi (y8), vi (y9), vi (y10)]) [.row 0 (w : List (Int)) Bool.false])))))))))))) := by
  kernel_rfl

noncomputable def m_law09_number (isv : Bool) : Option (Int) :=
  (bif (isv) then some ((1)) else some ((0)))

noncomputable def m_law09_done (nw : Nat) (cur : List Int) (l2 : T_layout_Layout) (a : T_assartlaw09_Act) : Option (Int × Int × Int × (List Int)) :=
  (bif (T_assartlaw09_Act.Kind a == 0) then ((m_extent_Find nw cur l2 (T_assartlaw09_Act.N a) (T_assartlaw09_Act.K a)).bind fun y0 => some (((y0), (0), (0), (cur)))) else (bif (T_assartlaw09_Act.Kind a == 1) then ((m_extent_Take nw cur l2 (T_assartlaw09_Act.P a) (T_assartlaw09_Act.N a) (T_assartlaw09_Act.K a)).bind fun y1 => ((m_law09_number (Prod.fst y1)).bind fun y2 => some (((y2), (0), (0), (Prod.snd y1))))) else (bif (T_assartlaw09_Act.Kind a == 2) then ((m_extent_Drop nw cur l2 (T_assartlaw09_Act.P a)).bind fun y3 => some (((Prod.fst y3), (0), (0), (Prod.snd y3)))) else (bif (T_assartlaw09_Act.Kind a == 3) then ((m_extent_Trim nw cur l2).bind fun y4 => some (((Prod.fst y4), (0), (0), (Prod.snd y4)))) else (bif (T_assartlaw09_Act.Kind a == 5) then ((m_extent_Find nw cur l2 (T_assartlaw09_Act.N a) (T_assartlaw09_Act.K a)).bind fun y5 => ((m_extent_Take nw cur l2 y5 (T_assartlaw09_Act.N a) 6).bind fun y6 => ((m_law09_number (Prod.fst y6)).bind fun y7 => some (((y5), (y7), (0), (Prod.snd y6)))))) else ((m_extent_Kind nw cur l2 (T_assartlaw09_Act.P a)).bind fun y8 => ((m_extent_First nw cur l2 (T_assartlaw09_Act.P a)).bind fun y9 => ((m_extent_Used nw cur l2).bind fun y10 => some (((y8), (y9), (y10), (cur)))))))))))

noncomputable def m_law09_told (rv : T_assartref02_Layout) (a : T_assartlaw09_Act) (w : List Int) : Option (Int × Int × Int × (List Int)) :=
  (bif (T_assartlaw09_Act.Kind a == 0) then ((m_ref09_Find rv (T_assartlaw09_Act.N a) (T_assartlaw09_Act.K a) w).bind fun y0 => some (((y0), (0), (0), (w)))) else (bif (T_assartlaw09_Act.Kind a == 1) then ((m_ref09_Take rv (T_assartlaw09_Act.P a) (T_assartlaw09_Act.N a) (T_assartlaw09_Act.K a) w).bind fun y1 => ((m_law09_number (Prod.fst y1)).bind fun y2 => some (((y2), (0), (0), (Prod.snd y1))))) else (bif (T_assartlaw09_Act.Kind a == 2) then ((m_ref09_Drop rv (T_assartlaw09_Act.P a) w).bind fun y3 => some (((Prod.fst y3), (0), (0), (Prod.snd y3)))) else (bif (T_assartlaw09_Act.Kind a == 3) then ((m_ref09_Trim rv w).bind fun y4 => some (((Prod.fst y4), (0), (0), (Prod.snd y4)))) else (bif (T_assartlaw09_Act.Kind a == 5) then ((m_ref09_Find rv (T_assartlaw09_Act.N a) (T_assartlaw09_Act.K a) w).bind fun y5 => ((m_ref09_Take rv y5 (T_assartlaw09_Act.N a) 6 w).bind fun y6 => ((m_law09_number (Prod.fst y6)).bind fun y7 => some (((y5), (y7), (0), (Prod.snd y6)))))) else ((m_ref09_Kind rv (T_assartlaw09_Act.P a) w).bind fun y8 => ((m_ref09_First rv (T_assartlaw09_Act.P a) w).bind fun y9 => ((m_ref09_Used rv w).bind fun y10 => some (((y8), (y9), (y10), (w)))))))))))

attribute [local irreducible] Loop ex exF contK roundK retK at_ bodyOf mkEnv
theorem ok_law09_number : SpecOK Try.prog elTT 100 (sp_law09_number m_law09_number) := by
  refine spec_of_exF (cfg := cfg_law09_number) (cfg_ok rfl rfl rfl) sig_nil (fn := Try.f100) (by kernel_rfl) (by kernel_rfl) (by kernel_rfl) ?_
  intro args H K h
  change tr_law09_number m_law09_number args H K at h
  unfold tr_law09_number at h
  replace h := aC_el h
  obtain ⟨a0, _, rfl, h⟩ := h
  replace h := aN_el h
  obtain ⟨rfl, h⟩ := h
  replace h := aBool_el h
  obtain ⟨isv, rfl, h⟩ := h
  replace h := aN_el h
  obtain ⟨rfl, h⟩ := h
  refine Eq.mpr (nf_law09_number isv K) ?_
  unfold m_law09_number at h
  revert h
  exact br_So (fun h => h) (fun h => h)

theorem ok_law09_done : SpecOK Try.prog elTT 53 (sp_law09_done m_law09_done) := by
  refine spec_of_exF (cfg := (cfg_law09_done m_extent_Find m_extent_Take m_law09_number m_extent_Drop m_extent_Trim m_extent_Kind m_extent_First m_extent_Used)) (cfg_ok rfl rfl rfl) (sig_cons ok_extent_Find (sig_cons ok_extent_Take (sig_cons ok_law09_number (sig_cons ok_extent_Drop (sig_cons ok_extent_Trim (sig_cons ok_extent_Kind (sig_cons ok_extent_First (sig_cons ok_extent_Used sig_nil)))))))) (fn := Try.f53) (by kernel_rfl) (by kernel_rfl) (by kernel_rfl) ?_
  intro args H K h
  change tr_law09_done m_law09_done args H K at h
  unfold tr_law09_done at h
  replace h := aC_el h
  obtain ⟨a0, _, rfl, h⟩ := h
  replace h := aC_el h
  obtain ⟨a1, _, rfl, h⟩ := h
  replace h := aC_el h
  obtain ⟨a2, _, rfl, h⟩ := h
  replace h := aN_el h
  obtain ⟨rfl, h⟩ := h
  replace h := aPtr_el h
  obtain ⟨rfl, h⟩ := h
  replace h := aAgg_el h
  obtain ⟨c1, rfl, h⟩ := h
  replace h := d_layout_Layout_el h
  obtain ⟨l2, rfl, h⟩ := h
  replace h := aAgg_el h
  obtain ⟨c2, rfl, h⟩ := h
  replace h := d_assartlaw09_Act_el h
  obtain ⟨a, rfl, h⟩ := h
  replace h := aC_el h
  obtain ⟨b0, _, rfl, h⟩ := h
  replace h := aC_el h
  obtain ⟨b1, _, rfl, h⟩ := h
  replace h := aN_el h
  obtain ⟨rfl, h⟩ := h
  replace h := bView_el h
  obtain ⟨ws, cur, xs, rfl, h⟩ := h
  replace h := bRow_el h
  obtain ⟨(l : List Int), rfl, h⟩ := h
  obtain ⟨rfl, hx, h⟩ := h
  refine Eq.mpr (nf_law09_done m_extent_Find m_extent_Take m_law09_number m_extent_Drop m_extent_Trim m_extent_Kind m_extent_First m_extent_Used ws cur xs l2 a K) ?_
  unfold m_law09_done at h
  revert h
  exact br_So (and_So (by first | exact rfl | assumption | exact trivial | omega) (and_So (by first | exact rfl | assumption | exact trivial | omega) (bind_So fun y0 => fun h => h))) (br_So (and_So (by first | exact rfl | assumption | exact trivial | omega) (and_So (by first | exact rfl | assumption | exact trivial | omega) (bind_So fun y1 => bind_So fun y2 => fun h => h))) (br_So (and_So (by first | exact rfl | assumption | exact trivial | omega) (and_So (by first | exact rfl | assumption | exact trivial | omega) (bind_So fun y3 => fun h => h))) (br_So (and_So (by first | exact rfl | assumption | exact trivial | omega) (and_So (by first | exact rfl | assumption | exact trivial | omega) (bind_So fun y4 => fun h => h))) (br_So (and_So (by first | exact rfl | assumption | exact trivial | omega) (and_So (by first | exact rfl | assumption | exact trivial | omega) (bind_So fun y5 => and_So (by first | exact rfl | assumption | exact trivial | omega) (and_So (by first | exact rfl | assumption | exact trivial | omega) (bind_So fun y6 => bind_So fun y7 => fun h => h))))) (and_So (by first | exact rfl | assumption | exact trivial | omega) (and_So (by first | exact rfl | assumption | exact trivial | omega) (bind_So fun y8 => and_So (by first | exact rfl | assumption | exact trivial | omega) (and_So (by first | exact rfl | assumption | exact trivial | omega) (bind_So fun y9 => and_So (by first | exact rfl | assumption | exact trivial | omega) (and_So (by first | exact rfl | assumption | exact trivial | omega) (bind_So fun y10 => fun h => h)))))))))))

theorem ok_law09_told : SpecOK Try.prog elTT 54 (sp_law09_told m_law09_told) := by
  refine spec_of_exF (cfg := (cfg_law09_told m_ref09_Find m_ref09_Take m_law09_number m_ref09_Drop m_ref09_Trim m_ref09_Kind m_ref09_First m_ref09_Used)) (cfg_ok rfl rfl rfl) (sig_cons ok_ref09_Find (sig_cons ok_ref09_Take (sig_cons ok_law09_number (sig_cons ok_ref09_Drop (sig_cons ok_ref09_Trim (sig_cons ok_ref09_Kind (sig_cons ok_ref09_First (sig_cons ok_ref09_Used sig_nil)))))))) (fn := Try.f54) (by kernel_rfl) (by kernel_rfl) (by kernel_rfl) ?_
  intro args H K h
  change tr_law09_told m_law09_told args H K at h
  unfold tr_law09_told at h
  replace h := aC_el h
  obtain ⟨a0, _, rfl, h⟩ := h
  replace h := aC_el h
  obtain ⟨a1, _, rfl, h⟩ := h
  replace h := aC_el h
  obtain ⟨a2, _, rfl, h⟩ := h
  replace h := aN_el h
  obtain ⟨rfl, h⟩ := h
  replace h := aAgg_el h
  obtain ⟨c0, rfl, h⟩ := h
  replace h := d_assartref02_Layout_el h
  obtain ⟨rv, rfl, h⟩ := h
  replace h := aRow_el h
  obtain ⟨rfl, h⟩ := h
  replace h := aAgg_el h
  obtain ⟨c2, rfl, h⟩ := h
  replace h := d_assartlaw09_Act_el h
  obtain ⟨a, rfl, h⟩ := h
  replace h := aC_el h
  obtain ⟨b0, _, rfl, h⟩ := h
  replace h := aN_el h
  obtain ⟨rfl, h⟩ := h
  replace h := bRow_el h
  obtain ⟨(w : List Int), rfl, h⟩ := h
  refine Eq.mpr (nf_law09_told m_ref09_Find m_ref09_Take m_law09_number m_ref09_Drop m_ref09_Trim m_ref09_Kind m_ref09_First m_ref09_Used rv a w K) ?_
  unfold m_law09_told at h
  revert h
  exact br_So (bind_So fun y0 => fun h => h) (br_So (bind_So fun y1 => bind_So fun y2 => fun h => h) (br_So (bind_So fun y3 => fun h => h) (br_So (bind_So fun y4 => fun h => h) (br_So (bind_So fun y5 => bind_So fun y6 => bind_So fun y7 => fun h => h) (bind_So fun y8 => bind_So fun y9 => bind_So fun y10 => fun h => h)))))

end Go.Rx
end

section
/- Steps of chapter 9: the program's and the document's are the same; what stays so behind each. -/
namespace Go.Rx
open Go.Proofs

section
variable {L : T_layout_Layout} {nw : Nat} {cur : List Int}
theorem MayTake.i64 {p n k : Int} (h : LayOK L) (m : MayTake L cur p n k) : I64 p := by
  have hs := m.2.2.span; have := h.pages
  unfold I64; omega
theorem eTake_eq (v : VOK L nw cur) (p n k : Int) : ∃ b u, m_extent_Take nw cur L p n k = some (b, u) ∧ ((b = true ∧ MayTake L cur p n k ∧ TakeW L cur u p n k) ∨ (b = false ∧ ¬ MayTake L cur p n k ∧ u = cur)) := by
  by_cases m : MayTake L cur p n k
  · obtain ⟨u, h1, h2⟩ := eTake_yes v m (m.i64 v.lay)
    exact ⟨_, _, h1, .inl ⟨rfl, m, h2⟩⟩
  · exact ⟨_, _, eTake_no v m, .inr ⟨rfl, m, rfl⟩⟩
theorem number_eq (b : Bool) : m_law09_number b = some (bif b then 1 else 0) := by
  unfold m_law09_number; cases b <;> rfl
end

section
variable {c : T_api_Config} {w : List Int}
theorem take_both (h : RightC c) (v : VOK (layC c) w.length w) (p n k : Int) : ∃ b u, m_extent_Take w.length w (layC c) p n k = some (b, u) ∧ m_ref09_Take ⟨c⟩ p n k w = some (b, u) ∧ u.length = w.length := by
  obtain ⟨b, u, h1, h2⟩ := eTake_eq v p n k
  rcases h2 with ⟨rfl, m, t⟩ | ⟨rfl, m, rfl⟩
  · obtain ⟨u', k1, k2⟩ := r9Take_yes h v m
    exact ⟨_, _, h1, by rw [k1, k2 u t], t.len⟩
  · exact ⟨_, _, h1, r9Take_no h v m, rfl⟩
theorem drop_both (h : RightC c) (v : VOK (layC c) w.length w) (p : Int) : ∃ n u, m_extent_Drop w.length w (layC c) p = some (n, u) ∧ m_ref09_Drop ⟨c⟩ p w = some (n, u) ∧ u.length = w.length := by
  obtain ⟨n, u, h1, h2⟩ := eDrop_eq v p
  obtain ⟨n', u', k1, k2⟩ := r9Drop_eq h v p
  have e0 : (layC c).c.Pages = c.Pages := rfl
  rw [e0] at h2
  rcases h2 with ⟨a1, a2, a3, a4⟩ | ⟨a1, rfl, rfl⟩ <;> rcases k2 with ⟨b1, b2, b3, b4⟩ | ⟨b1, rfl, rfl⟩
  · have e := a3.uniq b3
    subst e
    have e := a4.uniq b4
    subst e
    exact ⟨_, _, h1, k1, a4.len⟩
  · exact (b1 ⟨a1, a2⟩).elim
  · exact (a1 ⟨b1, b2⟩).elim
  · exact ⟨_, _, h1, k1, rfl⟩
theorem find_both (h : RightC c) (v : VOK (layC c) w.length w) (n step : Int) : ∃ r, m_extent_Find w.length w (layC c) n step = some r ∧ m_ref09_Find ⟨c⟩ n step w = some r := by
  obtain ⟨r, h1, h2⟩ := eFind_eq v n step
  obtain ⟨r', k1, k2⟩ := r9Find_eq h v n step
  exact ⟨r, h1, by rw [k1, h2.uniq k2]⟩
theorem first_both (h : RightC c) (v : VOK (layC c) w.length w) (p : Int) : ∃ r, m_extent_First w.length w (layC c) p = some r ∧ m_ref09_First ⟨c⟩ p w = some r := by
  obtain ⟨r, h1, h2⟩ := eFirst_eq v p
  obtain ⟨r', k1, k2⟩ := r9First_eq h v p
  have e0 : (layC c).c.Pages = c.Pages := rfl
  rw [e0] at h2
  refine ⟨r, h1, ?_⟩
  rw [k1]
  congr 1
  rcases h2 with ⟨a1, a2⟩ | ⟨a1, a2⟩ <;> rcases k2 with ⟨b1, b2⟩ | ⟨b1, b2⟩
  · rw [a2, b2]
  · omega
  · omega
  · have hp : 0 ≤ p := by
      by_cases hp : 0 ≤ p
      · exact hp
      · rw [knd_out (by omega)] at a1; omega
    exact (a2.uniq hp b2).symm

/-- Each step tells the same, and leaves the same words. -/
theorem same9 (h : RightC c) (v : VOK (layC c) w.length w) (a : T_assartlaw09_Act) : ∃ r, m_law09_done w.length w (layC c) a = some r ∧ m_law09_told ⟨c⟩ a w = some r ∧ r.2.2.2.length = w.length := by
  unfold m_law09_done m_law09_told
  cases (a.Kind == 0) with
  | true =>
    obtain ⟨r, h1, h2⟩ := find_both h v a.N a.K
    rw [h1, h2]
    exact ⟨_, rfl, rfl, rfl⟩
  | false =>
  rw [cond_false, cond_false]
  cases (a.Kind == 1) with
  | true =>
    obtain ⟨b, u, h1, h2, h3⟩ := take_both h v a.P a.N a.K
    rw [h1, h2]
    simp only [cond_true, Option.bind_some, number_eq]
    exact ⟨_, rfl, rfl, h3⟩
  | false =>
  rw [cond_false, cond_false]
  cases (a.Kind == 2) with
  | true =>
    obtain ⟨b, u, h1, h2, h3⟩ := drop_both h v a.P
    rw [h1, h2]
    exact ⟨_, rfl, rfl, h3⟩
  | false =>
  rw [cond_false, cond_false]
  cases (a.Kind == 3) with
  | true =>
    have e0 : (layC c).c.Pages = c.Pages := rfl
    rw [eTrim_eq v, r9Trim_eq h v, e0]
    exact ⟨_, rfl, rfl, trimN_len _ _ _⟩
  | false =>
  rw [cond_false, cond_false]
  cases (a.Kind == 5) with
  | true =>
    obtain ⟨r, h1, h2⟩ := find_both h v a.N a.K
    obtain ⟨b, u, k1, k2, k3⟩ := take_both h v r a.N 6
    rw [h1, h2]
    simp only [cond_true, Option.bind_some, k1, k2, number_eq]
    exact ⟨_, rfl, rfl, k3⟩
  | false =>
  rw [cond_false, cond_false]
  obtain ⟨r, h1, h2⟩ := first_both h v a.P
  have e0 : (layC c).c.Pages = c.Pages := rfl
  rw [eKind_eq v, r9Kind_eq h v, h1, h2, eUsed_eq v, r9Used_eq h v, e0]
  exact ⟨_, rfl, rfl, rfl⟩
end

section
variable {L : T_layout_Layout} {nw : Nat} {cur : List Int}
theorem isB_congr {pg tb : Int} {u w : List Int} (htb : 0 ≤ tb) (h : ∀ b, tb ≤ b → b < tb + (pg + 3) / 4 → wd u b = wd w b) (j st : Int) : isB u pg tb j st = isB w pg tb j st := by
  unfold isB
  cases ht : thereB pg j with
  | false => rfl
  | true =>
    obtain ⟨h1, h2⟩ := there_of ht
    have := h (tb + j) (by omega) (by omega)
    unfold wd at this
    rw [this]

/-- What is so of the words behind any steps. -/
structure InvK (L : T_layout_Layout) (w : List Int) : Prop where
  runs : RunsOK L.at_1 L.c.Pages w
  maps : ∀ p, 0 ≤ p → p < L.c.Pages → wd w (L.at_1 + p) ≠ 0 → isB w L.c.Pages L.at_0 (p / 4) 1 = true

theorem RunsOK.congr {kb pg : Int} {u w : List Int} (hkb : 0 ≤ kb) (hpg : 0 ≤ pg) (r : RunsOK kb pg w) (h : ∀ b, kb ≤ b → wd u b = wd w b) : RunsOK kb pg u := by
  refine ⟨fun p a b => ?_, fun p a b e => ?_, fun p a b e => ?_⟩
  · rw [h _ (by omega)]; exact r.kinds p a b
  · rw [h _ (by omega)] at e
    have := r.rest p a b e
    refine ⟨this.1, ?_⟩
    rw [h _ (by omega)]; exact this.2
  · rw [h _ (by omega)] at e
    rw [h _ (by omega), h _ (by omega)]; exact r.zero p a b e

theorem TakeW.parts {u : List Int} {p n k : Int} (v : VOK L nw cur) (m : MayTake L cur p n k) (t : TakeW L cur u p n k) :
    Took L.at_1 L.c.Pages (ensM cur L.c.Pages L.at_0 p n).2 u p n k (if k = 6 then n else 0) ∧ FreeR L.at_1 L.c.Pages (ensM cur L.c.Pages L.at_0 p n).2 p n ∧
    (∀ b, L.at_1 ≤ b → wd (ensM cur L.c.Pages L.at_0 p n).2 b = wd cur b) ∧ (∀ q, knd L.at_1 L.c.Pages (ensM cur L.c.Pages L.at_0 p n).2 q = knd L.at_1 L.c.Pages cur q) := by
  have g := v.lay.geoK
  have hs := m.2.2.span
  have ve := v.ens p n
  have gk := ve.geoK
  have hoff : ∀ b, L.at_1 ≤ b → wd (ensM cur L.c.Pages L.at_0 p n).2 b = wd cur b := fun b hb => ens_off (by omega) (by omega)
  refine ⟨took_of gk hs t.ran, (FreeR.congr (fun q a b => hoff _ (by omega))).2 m.2.2, hoff, fun q => ?_⟩
  by_cases h : 0 ≤ q ∧ q < L.c.Pages
  · rw [knd_in h, knd_in h, hoff _ (by omega)]
  · rw [knd_out h, knd_out h]

theorem ens_isB' (v : VOK L nw cur) {p n : Int} (hs : 1 ≤ n ∧ 0 ≤ p ∧ p < L.c.Pages ∧ n ≤ L.c.Pages - p) (j : Int) : isB (ensM cur L.c.Pages L.at_0 p n).2 L.c.Pages L.at_0 j 1 = (isB cur L.c.Pages L.at_0 j 1 || (decide (p / 4 ≤ j) && decide (j ≤ (p + n - 1) / 4))) := by
  have ht := v.tab
  have hb : spanB L.c.Pages p n = true := by
    unfold spanB
    rw [decide_eq_true hs.1, decide_eq_true hs.2.1, decide_eq_true hs.2.2.1, decide_eq_true hs.2.2.2]; rfl
  unfold ensM
  rw [ens_isB ht.1 ht.2 _ _ _ (ens_there hb), ensK_span hb]
  congr 2
  by_cases c : j ≤ (p + n - 1) / 4
  · rw [decide_eq_true c, decide_eq_true (by omega)]
  · rw [decide_eq_false c, decide_eq_false (by omega)]

theorem InvK.take {u : List Int} {p n k : Int} (v : VOK L nw cur) (i : InvK L cur) (m : MayTake L cur p n k) (t : TakeW L cur u p n k) : InvK L u := by
  have g := v.lay.geoK; have hpg := v.lay.pages
  have hs := m.2.2.span
  obtain ⟨tk, f, hoff, hk⟩ := t.parts v m
  have r1 : RunsOK L.at_1 L.c.Pages (ensM cur L.c.Pages L.at_0 p n).2 := i.runs.congr (by omega) (by omega) hoff
  refine ⟨r1.take f tk m.1 m.2.1, fun q a b hq => ?_⟩
  rw [isB_congr (by omega) (fun b h1 h2 => tk.off b (by omega) (by omega)), ens_isB' v hs]
  have hu := tk.knd q
  rw [knd_in ⟨a, b⟩, hk, knd_in ⟨a, b⟩] at hu
  by_cases c : p ≤ q ∧ q < p + n
  · rw [decide_eq_true (show p / 4 ≤ q / 4 by omega), decide_eq_true (show q / 4 ≤ (p + n - 1) / 4 by omega)]; simp
  · rw [if_neg (by omega), if_neg (by omega)] at hu
    rw [i.maps q a b (by rw [← hu]; exact hq)]; rfl

theorem InvK.drop {u : List Int} {p n : Int} (v : VOK L nw cur) (i : InvK L cur) (hp : 0 ≤ p) (l : RunLen L.at_1 L.c.Pages cur p n) (hk : 1 ≤ knd L.at_1 L.c.Pages cur p ∧ knd L.at_1 L.c.Pages cur p ≤ 6) (t : Ran L.at_1 L.c.Pages cur u p n 0) : InvK L u := by
  have g := v.lay.geoK; have hpg := v.lay.pages
  have gk := v.geoK
  have hpos := l.pos; have hinn := l.inn
  refine ⟨i.runs.drop gk hp l hk t, fun q a b hq => ?_⟩
  rw [isB_congr (u := u) (w := cur) (by omega) (fun b h1 h2 => by rw [t.at_ b (by omega), if_neg (by omega), if_neg (by omega), if_neg (by omega)])]
  have hu := t.knd gk hp hinn q
  rw [knd_in ⟨a, b⟩, knd_in ⟨a, b⟩] at hu
  refine i.maps q a b ?_
  by_cases c : p ≤ q ∧ q < p + n
  · rw [if_pos c] at hu; exact (hq hu).elim
  · rw [if_neg c] at hu; rw [← hu]; exact hq

end
end Go.Rx
end

section
/- Contracts. -/
namespace Go.Rx
open Go.Proofs
set_option maxRecDepth 100000
set_option maxHeartbeats 4000000
/-! assart/assartlaw09.ExtentPlays$1 -/
def tr_law09_ExtentPlays_1 (m_ : Nat → (List Int) → T_layout_Layout → Int → Int → Int → Int → (List (List Int)) → Option ((List Int) × Int × Int × Int)) (args : List V) (H : Heap) (K : V → Heap → Prop) : Prop :=
  aC args fun a0 r => aC r fun a1 r => aC r fun a2 r => aC r fun a3 r => aC r fun a4 r => aN r <| aPtr 0 a0 <| aPtr 1 a1 <| aPtr 2 a2 <| aPtr 3 a3 <| aPtr 4 a4 <| aC H fun b0 r => aC r fun b1 r => aC r fun b2 r => aC r fun b3 r => aC r fun b4 r => aC r fun b5 r => aC r fun b6 r => aN r <| bView 5 b0 fun ws cur xs => bCells b1 fun U c1 => d_layout_Layout c1 fun l2 => bCells b2 fun U2 c2 => aC c2 fun d2_0 r => aRow 6 d2_0 <| aN r <| bCells b3 fun U3 c3 => aC c3 fun d3_0 r => aInt d3_0 fun iv => aN r <| bCells b4 fun U4 c4 => aC c4 fun d4_0 r => aInt d4_0 fun x_0 => aC r fun d4_1 r => aInt d4_1 fun x_1 => aC r fun d4_2 r => aInt d4_2 fun x_2 => aN r <| bRow 0 true b5 fun (l : List Int) => bRow 7 true b6 fun (acts : List (List Int)) => ws = l ∧ xs.length ≤ 2 ∧ So (m_ (ws.length) cur l2 iv x_0 x_1 x_2 acts) fun x => K (.tup []) [.pk 0 [ws, x.1] xs [.row 5], .cells U (e_layout_Layout l2), .cells U2 [.row 6], .cells U3 [vi iv], .cells U4 [vi (x.2.1), vi (x.2.2.1), vi (x.2.2.2)], .row 0 l true, .row 7 acts true]
def sp_law09_ExtentPlays_1 (m_ : Nat → (List Int) → T_layout_Layout → Int → Int → Int → Int → (List (List Int)) → Option ((List Int) × Int × Int × Int)) : Spec := ⟨tr_law09_ExtentPlays_1 m_, (true : Bool)⟩

/-! assart/assartlaw09.ExtentLeast$1 -/
/-! assart/assartlaw09.ExtentBack$1 -/
/-! assart/assartlaw09.ExtentTrim$1 -/
/-! assart/assartlaw09.lives$1 -/
def tr_law09_lives_1 (m_ : Nat → (List Int) → T_layout_Layout → Int → Bool → Int → Option ((List Int) × Int × Bool × Int)) (args : List V) (H : Heap) (K : V → Heap → Prop) : Prop :=
  aC args fun a0 r => aC r fun a1 r => aC r fun a2 r => aC r fun a3 r => aC r fun a4 r => aN r <| aPtr 0 a0 <| aPtr 1 a1 <| aPtr 2 a2 <| aPtr 3 a3 <| aPtr 4 a4 <| aC H fun b0 r => aC r fun b1 r => aC r fun b2 r => aC r fun b3 r => aC r fun b4 r => aC r fun b5 r => aN r <| bView 5 b0 fun ws cur xs => bCells b1 fun U c1 => d_layout_Layout c1 fun l2 => bCells b2 fun U2 c2 => aC c2 fun d2_0 r => aInt d2_0 fun a => aN r <| bCells b3 fun U3 c3 => aC c3 fun d3_0 r => aBool d3_0 fun took => aN r <| bCells b4 fun U4 c4 => aC c4 fun d4_0 r => aInt d4_0 fun b => aN r <| bRow 0 true b5 fun (l : List Int) => ws = l ∧ xs.length ≤ 2 ∧ So (m_ (ws.length) cur l2 a took b) fun x => K (.tup []) [.pk 0 [ws, x.1] xs [.row 5], .cells U (e_layout_Layout l2), .cells U2 [vi (x.2.1)], .cells U3 [vb (x.2.2.1)], .cells U4 [vi (x.2.2.2)], .row 0 l true]
def sp_law09_lives_1 (m_ : Nat → (List Int) → T_layout_Layout → Int → Bool → Int → Option ((List Int) × Int × Bool × Int)) : Spec := ⟨tr_law09_lives_1 m_, (true : Bool)⟩

/-! assart/assartlaw09.after$1 -/
noncomputable def cfg_law09_ExtentPlays_1 (m_law09_done : Nat → (List Int) → T_layout_Layout → T_assartlaw09_Act → Option (Int × Int × Int × (List Int))) : Cfg := { cfgB with
  sigs := (sigC 53 (sp_law09_done m_law09_done) sigN),
  plan := fun r => match r with | 0 => some (List.range 8, 2) | _ => none }

noncomputable def cfg_law09_lives_1 (m_extent_Find : Nat → (List Int) → T_layout_Layout → Int → Int → Option (Int)) (m_extent_Take : Nat → (List Int) → T_layout_Layout → Int → Int → Int → Option (Bool × (List Int))) : Cfg := { cfgB with
  sigs := (sigC 57 (sp_extent_Find m_extent_Find) (sigC 61 (sp_extent_Take m_extent_Take) sigN)) }

theorem nf_law09_ExtentPlays_1 (m_law09_done : Nat → (List Int) → T_layout_Layout → T_assartlaw09_Act → Option (Int × Int × Int × (List Int))) (ws : List Int) (cur : List Int) (xs : List Value) (l2 : T_layout_Layout) (iv : Int) (x_0 : Int) (x_1 : Int) (x_2 : Int) (acts : List (List Int)) (U : TypeId) (U2 : TypeId) (U3 : TypeId) (U4 : TypeId) (K : V → Heap → Prop) : (exF (cfg_law09_ExtentPlays_1 m_law09_done) Try.f52 [.ptr 0 0, .ptr 1 0, .ptr 2 0, .ptr 3 0, .ptr 4 0] [.pk 0 [ws, cur] xs [.row 5], .cells U (e_layout_Layout l2), .cells U2 [.row 6], .cells U3 [vi iv], .cells U4 [vi x_0, vi x_1, vi x_2], .row 0 ws true, .row 7 acts true] K) = (
    Req (inR iv (List.length acts)) (Req (inR (offs iv 0) (List.length acts)) (((ws = ws) ∧ (((List.length xs ≤ 2) ∧ (So (m_law09_done (List.length ws) cur l2 (T_assartlaw09_Act.mk (List.getD (List.getD acts (Int.toNat (offs iv (0 : Nat))) (List.replicate (4 : Nat) (0 : Int))) (0 : Nat) (0 : Int)) (List.getD (List.getD acts (Int.toNat (offs iv (0 : Nat))) (List.replicate (4 : Nat) (0 : Int))) (1 : Nat) (0 : Int)) (List.getD (List.getD acts (Int.toNat (offs iv (0 : Nat))) (List.replicate (4 : Nat) (0 : Int))) (2 : Nat) (0 : Int)) (List.getD (List.getD acts (Int.toNat (offs iv (0 : Nat))) (List.replicate (4 : Nat) (0 : Int))) (3 : Nat) (0 : Int)))) (fun (y0 : Int × Int × Int × List Int) => (K (.tup []) [.pk 0 [ws, Prod.snd (Prod.snd (Prod.snd y0))] (xs) [.row 5], .cells U (e_layout_Layout l2), .cells U2 [.row 6], .cells U3 [vi (iv)], .cells U4 [vi (Prod.fst y0), vi (Prod.fst (Prod.snd y0)), vi (Prod.fst (Prod.snd (Prod.snd y0)))], .row 0 (ws : List (Int)) Bool.true, .row 7 (acts : List (List Int)) Bool.true]))))))))) := by
  kernel_rfl

theorem nf_law09_lives_1 (m_extent_Find : Nat → (List Int) → T_layout_Layout → Int → Int → Option (Int)) (m_extent_Take : Nat → (List Int) → T_layout_Layout → Int → Int → Int → Option (Bool × (List Int))) (ws : List Int) (cur : List Int) (xs : List Value) (l2 : T_layout_Layout) (a : Int) (took : Bool) (b : Int) (U : TypeId) (U2 : TypeId) (U3 : TypeId) (U4 : TypeId) (K : V → Heap → Prop) : (exF (cfg_law09_lives_1 m_extent_Find m_extent_Take) Try.f98 [.ptr 0 0, .ptr 1 0, .ptr 2 0, .ptr 3 0, .ptr 4 0] [.pk 0 [ws, cur] xs [.row 5], .cells U (e_layout_Layout l2), .cells U2 [vi a], .cells U3 [vb took], .cells U4 [vi b], .row 0 ws true] K) = (
    ((ws = ws) ∧ (((List.length xs ≤ 2) ∧ (So (m_extent_Find (List.length ws) cur l2 2 1) (fun (y0 : Int) => (((ws = ws) ∧ (((List.length xs ≤ 2) ∧ (So (m_extent_Take (List.length ws) cur l2 0 1 3) (fun (y1 : Bool × List Int) => (((ws = ws) ∧ (((List.length xs ≤ 2) ∧ (So (m_extent_Find (List.length ws) (Prod.snd y1) l2 2 2) (fun (y2 : Int) => (K (.tup []) [.pk 0 [ws, Prod.snd y1] (xs) [.row 5], .cells U (e_layout_Layout l2), .cells U2 [vi (y0)], .cells U3 [vb (Prod.fst y1)], .cells U4 [vi (y2)], .row 0 (ws : List (Int)) Bool.true]))))))))))))))))))) := by
  kernel_rfl

noncomputable def m_law09_ExtentPlays_1 (nw : Nat) (cur : List Int) (l2 : T_layout_Layout) (iv : Int) (x_0 : Int) (x_1 : Int) (x_2 : Int) (acts : List (List Int)) : Option ((List Int) × Int × Int × Int) :=
  (bif (inR iv (List.length acts)) then (bif (inR (offs iv 0) (List.length acts)) then ((m_law09_done nw cur l2 (T_assartlaw09_Act.mk (List.getD (List.getD acts (Int.toNat (offs iv (0 : Nat))) (List.replicate (4 : Nat) (0 : Int))) (0 : Nat) (0 : Int)) (List.getD (List.getD acts (Int.toNat (offs iv (0 : Nat))) (List.replicate (4 : Nat) (0 : Int))) (1 : Nat) (0 : Int)) (List.getD (List.getD acts (Int.toNat (offs iv (0 : Nat))) (List.replicate (4 : Nat) (0 : Int))) (2 : Nat) (0 : Int)) (List.getD (List.getD acts (Int.toNat (offs iv (0 : Nat))) (List.replicate (4 : Nat) (0 : Int))) (3 : Nat) (0 : Int)))).bind fun y0 => some (((Prod.snd (Prod.snd (Prod.snd y0))), (Prod.fst y0), (Prod.fst (Prod.snd y0)), (Prod.fst (Prod.snd (Prod.snd y0)))))) else none) else none)

noncomputable def m_law09_lives_1 (nw : Nat) (cur : List Int) (l2 : T_layout_Layout) (a : Int) (took : Bool) (b : Int) : Option ((List Int) × Int × Bool × Int) :=
  ((m_extent_Find nw cur l2 2 1).bind fun y0 => ((m_extent_Take nw cur l2 0 1 3).bind fun y1 => ((m_extent_Find nw (Prod.snd y1) l2 2 2).bind fun y2 => some (((Prod.snd y1), (y0), (Prod.fst y1), (y2))))))

attribute [local irreducible] Loop ex exF contK roundK retK at_ bodyOf mkEnv
theorem ok_law09_ExtentPlays_1 : SpecOK Try.prog elTT 52 (sp_law09_ExtentPlays_1 m_law09_ExtentPlays_1) := by
  refine spec_of_exF (cfg := (cfg_law09_ExtentPlays_1 m_law09_done)) (cfg_ok rfl rfl rfl) (sig_cons ok_law09_done sig_nil) (fn := Try.f52) (by kernel_rfl) (by kernel_rfl) (by kernel_rfl) ?_
  intro args H K h
  change tr_law09_ExtentPlays_1 m_law09_ExtentPlays_1 args H K at h
  unfold tr_law09_ExtentPlays_1 at h
  replace h := aC_el h
  obtain ⟨a0, _, rfl, h⟩ := h
  replace h := aC_el h
  obtain ⟨a1, _, rfl, h⟩ := h
  replace h := aC_el h
  obtain ⟨a2, _, rfl, h⟩ := h
  replace h := aC_el h
  obtain ⟨a3, _, rfl, h⟩ := h
  replace h := aC_el h
  obtain ⟨a4, _, rfl, h⟩ := h
  replace h := aN_el h
  obtain ⟨rfl, h⟩ := h
  replace h := aPtr_el h
  obtain ⟨rfl, h⟩ := h
  replace h := aPtr_el h
  obtain ⟨rfl, h⟩ := h
  replace h := aPtr_el h
  obtain ⟨rfl, h⟩ := h
  replace h := aPtr_el h
  obtain ⟨rfl, h⟩ := h
  replace h := aPtr_el h
  obtain ⟨rfl, h⟩ := h
  replace h := aC_el h
  obtain ⟨b0, _, rfl, h⟩ := h
  replace h := aC_el h
  obtain ⟨b1, _, rfl, h⟩ := h
  replace h := aC_el h
  obtain ⟨b2, _, rfl, h⟩ := h
  replace h := aC_el h
  obtain ⟨b3, _, rfl, h⟩ := h
  replace h := aC_el h
  obtain ⟨b4, _, rfl, h⟩ := h
  replace h := aC_el h
  obtain ⟨b5, _, rfl, h⟩ := h
  replace h := aC_el h
  obtain ⟨b6, _, rfl, h⟩ := h
  replace h := aN_el h
  obtain ⟨rfl, h⟩ := h
  replace h := bView_el h
  obtain ⟨ws, cur, xs, rfl, h⟩ := h
  replace h := bCells_el h
  obtain ⟨U, c1, rfl, h⟩ := h
  replace h := d_layout_Layout_el h
  obtain ⟨l2, rfl, h⟩ := h
  replace h := bCells_el h
  obtain ⟨U2, c2, rfl, h⟩ := h
  replace h := aC_el h
  obtain ⟨d2_0, _, rfl, h⟩ := h
  replace h := aRow_el h
  obtain ⟨rfl, h⟩ := h
  replace h := aN_el h
  obtain ⟨rfl, h⟩ := h
  replace h := bCells_el h
  obtain ⟨U3, c3, rfl, h⟩ := h
  replace h := aC_el h
  obtain ⟨d3_0, _, rfl, h⟩ := h
  replace h := aInt_el h
  obtain ⟨iv, rfl, h⟩ := h
  replace h := aN_el h
  obtain ⟨rfl, h⟩ := h
  replace h := bCells_el h
  obtain ⟨U4, c4, rfl, h⟩ := h
  replace h := aC_el h
  obtain ⟨d4_0, _, rfl, h⟩ := h
  replace h := aInt_el h
  obtain ⟨x_0, rfl, h⟩ := h
  replace h := aC_el h
  obtain ⟨d4_1, _, rfl, h⟩ := h
  replace h := aInt_el h
  obtain ⟨x_1, rfl, h⟩ := h
  replace h := aC_el h
  obtain ⟨d4_2, _, rfl, h⟩ := h
  replace h := aInt_el h
  obtain ⟨x_2, rfl, h⟩ := h
  replace h := aN_el h
  obtain ⟨rfl, h⟩ := h
  replace h := bRow_el h
  obtain ⟨(l : List Int), rfl, h⟩ := h
  replace h := bRow_el h
  obtain ⟨(acts : List (List Int)), rfl, h⟩ := h
  obtain ⟨rfl, hx, h⟩ := h
  refine Eq.mpr (nf_law09_ExtentPlays_1 m_law09_done ws cur xs l2 iv x_0 x_1 x_2 acts U U2 U3 U4 K) ?_
  unfold m_law09_ExtentPlays_1 at h
  revert h
  exact req_So (req_So (and_So (by first | exact rfl | assumption | exact trivial | omega) (and_So (by first | exact rfl | assumption | exact trivial | omega) (bind_So fun y0 => fun h => h))))

theorem ok_law09_lives_1 : SpecOK Try.prog elTT 98 (sp_law09_lives_1 m_law09_lives_1) := by
  refine spec_of_exF (cfg := (cfg_law09_lives_1 m_extent_Find m_extent_Take)) (cfg_ok rfl rfl rfl) (sig_cons ok_extent_Find (sig_cons ok_extent_Take sig_nil)) (fn := Try.f98) (by kernel_rfl) (by kernel_rfl) (by kernel_rfl) ?_
  intro args H K h
  change tr_law09_lives_1 m_law09_lives_1 args H K at h
  unfold tr_law09_lives_1 at h
  replace h := aC_el h
  obtain ⟨a0, _, rfl, h⟩ := h
  replace h := aC_el h
  obtain ⟨a1, _, rfl, h⟩ := h
  replace h := aC_el h
  obtain ⟨a2, _, rfl, h⟩ := h
  replace h := aC_el h
  obtain ⟨a3, _, rfl, h⟩ := h
  replace h := aC_el h
  obtain ⟨a4, _, rfl, h⟩ := h
  replace h := aN_el h
  obtain ⟨rfl, h⟩ := h
  replace h := aPtr_el h
  obtain ⟨rfl, h⟩ := h
  replace h := aPtr_el h
  obtain ⟨rfl, h⟩ := h
  replace h := aPtr_el h
  obtain ⟨rfl, h⟩ := h
  replace h := aPtr_el h
  obtain ⟨rfl, h⟩ := h
  replace h := aPtr_el h
  obtain ⟨rfl, h⟩ := h
  replace h := aC_el h
  obtain ⟨b0, _, rfl, h⟩ := h
  replace h := aC_el h
  obtain ⟨b1, _, rfl, h⟩ := h
  replace h := aC_el h
  obtain ⟨b2, _, rfl, h⟩ := h
  replace h := aC_el h
  obtain ⟨b3, _, rfl, h⟩ := h
  replace h := aC_el h
  obtain ⟨b4, _, rfl, h⟩ := h
  replace h := aC_el h
  obtain ⟨b5, _, rfl, h⟩ := h
  replace h := aN_el h
  obtain ⟨rfl, h⟩ := h
  replace h := bView_el h
  obtain ⟨ws, cur, xs, rfl, h⟩ := h
  replace h := bCells_el h
  obtain ⟨U, c1, rfl, h⟩ := h
  replace h := d_layout_Layout_el h
  obtain ⟨l2, rfl, h⟩ := h
  replace h := bCells_el h
  obtain ⟨U2, c2, rfl, h⟩ := h
  replace h := aC_el h
  obtain ⟨d2_0, _, rfl, h⟩ := h
  replace h := aInt_el h
  obtain ⟨a, rfl, h⟩ := h
  replace h := aN_el h
  obtain ⟨rfl, h⟩ := h
  replace h := bCells_el h
  obtain ⟨U3, c3, rfl, h⟩ := h
  replace h := aC_el h
  obtain ⟨d3_0, _, rfl, h⟩ := h
  replace h := aBool_el h
  obtain ⟨took, rfl, h⟩ := h
  replace h := aN_el h
  obtain ⟨rfl, h⟩ := h
  replace h := bCells_el h
  obtain ⟨U4, c4, rfl, h⟩ := h
  replace h := aC_el h
  obtain ⟨d4_0, _, rfl, h⟩ := h
  replace h := aInt_el h
  obtain ⟨b, rfl, h⟩ := h
  replace h := aN_el h
  obtain ⟨rfl, h⟩ := h
  replace h := bRow_el h
  obtain ⟨(l : List Int), rfl, h⟩ := h
  obtain ⟨rfl, hx, h⟩ := h
  refine Eq.mpr (nf_law09_lives_1 m_extent_Find m_extent_Take ws cur xs l2 a took b U U2 U3 U4 K) ?_
  unfold m_law09_lives_1 at h
  revert h
  exact and_So (by first | exact rfl | assumption | exact trivial | omega) (and_So (by first | exact rfl | assumption | exact trivial | omega) (bind_So fun y0 => and_So (by first | exact rfl | assumption | exact trivial | omega) (and_So (by first | exact rfl | assumption | exact trivial | omega) (bind_So fun y1 => and_So (by first | exact rfl | assumption | exact trivial | omega) (and_So (by first | exact rfl | assumption | exact trivial | omega) (bind_So fun y2 => fun h => h))))))

end Go.Rx
end

section
/- The programs of the laws of chapter 9, plainly. -/
namespace Go.Rx
open Go.Proofs

theorem acts4 {acts : List (List Int)} (n : Nat) (h : n < acts.length) : acts.getD n (List.replicate 4 0) = acts[n] := by simp [List.getD, h]

section
variable {L : T_layout_Layout} {nw : Nat} {cur : List Int}
end
end Go.Rx
end

section
/- view.Do of the programs of chapter 9. -/
namespace Go.Rx
open Go.Proofs
set_option maxRecDepth 100000
set_option maxHeartbeats 4000000
def tr_do_law09_ExtentPlays_1 (m_ : Nat → (List Int) → T_layout_Layout → Int → Int → Int → Int → (List (List Int)) → Option ((List Int) × Int × Int × Int)) (args : List V) (H : Heap) (K : V → Heap → Prop) : Prop :=
  aC args fun a0 r => aC r fun a1 r => aN r <| aRow 0 a0 <| aFn 52 a1 fun cs => aC cs fun p0 r => aC r fun p1 r => aC r fun p2 r => aC r fun p3 r => aN r <| aPtr 1 p0 <| aPtr 2 p1 <| aPtr 3 p2 <| aPtr 4 p3 <| aC H fun b5 r => aC r fun b1 r => aC r fun b2 r => aC r fun b3 r => aC r fun b4 r => aC r fun b6 r => aN r <| bRow 0 true b5 fun (ws : List Int) => bCells b1 fun U c1 => d_layout_Layout c1 fun l2 => bCells b2 fun U2 c2 => aC c2 fun d2_0 r => aRow 5 d2_0 <| aN r <| bCells b3 fun U3 c3 => aC c3 fun d3_0 r => aInt d3_0 fun iv => aN r <| bCells b4 fun U4 c4 => aC c4 fun d4_0 r => aInt d4_0 fun x_0 => aC r fun d4_1 r => aInt d4_1 fun x_1 => aC r fun d4_2 r => aInt d4_2 fun x_2 => aN r <| bRow 7 true b6 fun (acts : List (List Int)) => Req (Nat.ble ws.length 1048576) (So (m_ (ws.length) ws l2 iv x_0 x_1 x_2 acts) fun x => ∀ nd : List Pr, K (.tup [.row 6, .row 7, vi 0]) [.row 0 ws true, .cells U (e_layout_Layout l2), .cells U2 [.row 5], .cells U3 [vi iv], .cells U4 [vi (x.2.1), vi (x.2.2.1), vi (x.2.2.2)], .row 7 acts true, .row 0 (x.1) false, .row 2 nd false])
def sp_do_law09_ExtentPlays_1 (m_ : Nat → (List Int) → T_layout_Layout → Int → Int → Int → Int → (List (List Int)) → Option ((List Int) × Int × Int × Int)) : Spec := ⟨tr_do_law09_ExtentPlays_1 m_, (true : Bool)⟩
noncomputable def cfgDo_law09_ExtentPlays_1 (m_ : Nat → (List Int) → T_layout_Layout → Int → Int → Int → Int → (List (List Int)) → Option ((List Int) × Int × Int × Int)) : Cfg := cfgDo 52 (sp_law09_ExtentPlays_1 m_) [(0, none), (7, none), (10, none), (31, none), (32, none), (33, none)]

def tr_do_law09_lives_1 (m_ : Nat → (List Int) → T_layout_Layout → Int → Bool → Int → Option ((List Int) × Int × Bool × Int)) (args : List V) (H : Heap) (K : V → Heap → Prop) : Prop :=
  aC args fun a0 r => aC r fun a1 r => aN r <| aRow 0 a0 <| aFn 98 a1 fun cs => aC cs fun p0 r => aC r fun p1 r => aC r fun p2 r => aC r fun p3 r => aN r <| aPtr 1 p0 <| aPtr 2 p1 <| aPtr 3 p2 <| aPtr 4 p3 <| aC H fun b5 r => aC r fun b1 r => aC r fun b2 r => aC r fun b3 r => aC r fun b4 r => aN r <| bRow 0 true b5 fun (ws : List Int) => bCells b1 fun U c1 => d_layout_Layout c1 fun l2 => bCells b2 fun U2 c2 => aC c2 fun d2_0 r => aInt d2_0 fun a => aN r <| bCells b3 fun U3 c3 => aC c3 fun d3_0 r => aBool d3_0 fun took => aN r <| bCells b4 fun U4 c4 => aC c4 fun d4_0 r => aInt d4_0 fun b => aN r <| Req (Nat.ble ws.length 1048576) (So (m_ (ws.length) ws l2 a took b) fun x => ∀ nd : List Pr, K (.tup [.row 5, .row 6, vi 0]) [.row 0 ws true, .cells U (e_layout_Layout l2), .cells U2 [vi (x.2.1)], .cells U3 [vb (x.2.2.1)], .cells U4 [vi (x.2.2.2)], .row 0 (x.1) false, .row 2 nd false])
def sp_do_law09_lives_1 (m_ : Nat → (List Int) → T_layout_Layout → Int → Bool → Int → Option ((List Int) × Int × Bool × Int)) : Spec := ⟨tr_do_law09_lives_1 m_, (true : Bool)⟩
noncomputable def cfgDo_law09_lives_1 (m_ : Nat → (List Int) → T_layout_Layout → Int → Bool → Int → Option ((List Int) × Int × Bool × Int)) : Cfg := cfgDo 98 (sp_law09_lives_1 m_) [(0, none), (7, none), (10, none), (31, none), (32, none), (33, none)]

theorem nf_do_law09_ExtentPlays_1 (m_ : Nat → (List Int) → T_layout_Layout → Int → Int → Int → Int → (List (List Int)) → Option ((List Int) × Int × Int × Int)) (ws : List Int) (l2 : T_layout_Layout) (iv : Int) (x_0 : Int) (x_1 : Int) (x_2 : Int) (acts : List (List Int)) (U : TypeId) (U2 : TypeId) (U3 : TypeId) (U4 : TypeId) (K : V → Heap → Prop) : (exF (cfgDo_law09_ExtentPlays_1 m_) Try.f16 [.row 0, .fn 52 [.ptr 1 0, .ptr 2 0, .ptr 3 0, .ptr 4 0]] [.row 0 ws true, .cells U (e_layout_Layout l2), .cells U2 [.row 5], .cells U3 [vi iv], .cells U4 [vi x_0, vi x_1, vi x_2], .row 7 acts true] K) = (
    Req (Decidable.decide (List.length ws ≤ 1048576)) ((∀ (y0 : Go.Value), (((ws = ws) ∧ (((1 ≤ 2) ∧ (So (m_ (List.length ws) ws l2 iv x_0 x_1 x_2 acts) (fun (y1 : List Int × Int × Int × Int) => (((y0 = y0) ∧ ((∀ (y2 : Int → Option Int), ((∀ (y3 : Nat), ((∀ (y4 : List Pr), ((∀ (y5 : List (List Int)), (((ViewOK ws (Prod.fst y1) y2 y4 y5) → (Req (Nat.ble (List.length y5) 1048576) (Req (Decidable.decide (0 + List.length ws ≤ 1048576)) (Loop (cfgDo_law09_ExtentPlays_1 m_) (⟨54, 6⟩ : Cx) (at_ (bodyOf Try.f16) [1, 1, 1, 1, 1, 1, 0, 1, 0, 0]) (mkEnv [(0, .row 0), (7, .ptr 6 0), (10, .row 7), (31, .row 8), (32, vi ((↑(List.length (List.map prOf y5)) : Int))), (33, vi (0))]) [.row 0 (ws : List (Int)) Bool.true, .cells U (e_layout_Layout l2), .cells U2 [.row 5], .cells U3 [vi (iv)], .cells U4 [vi (Prod.fst (Prod.snd y1)), vi (Prod.fst (Prod.snd (Prod.snd y1))), vi (Prod.snd (Prod.snd (Prod.snd y1)))], .row 7 (acts : List (List Int)) Bool.true, .cells 0 [.row 0, .mp 9, .row 10], .row 0 (ws : List (Int)) Bool.false, .row 2 (List.map prOf y5 : List (Pr)) Bool.false, .map (y2) (y3), .row 2 (y4 : List (Pr)) Bool.false] (contK (cfgDo_law09_ExtentPlays_1 m_) (⟨54, 6⟩ : Cx) (bodyOf Try.f16) [1, 1, 1, 1, 1, 1, 0, 1, 0] (retK (cfgDo_law09_ExtentPlays_1 m_) Try.f16 6 K)))))))))))))))))))))))))) := by
  kernel_rfl

theorem nf_do_law09_ExtentPlays_1_r (m_ : Nat → (List Int) → T_layout_Layout → Int → Int → Int → Int → (List (List Int)) → Option ((List Int) × Int × Int × Int)) (ws : List Int) (l2 : T_layout_Layout) (iv : Int) (x_0 : Int) (x_1 : Int) (x_2 : Int) (acts : List (List Int)) (U : TypeId) (U2 : TypeId) (U3 : TypeId) (U4 : TypeId) (x : (List Int) × Int × Int × Int) (now_ : List Int) (ps_ : List Pr) (nd_ : List Pr) (mm_ : Int → Option Int) (mn_ : Nat) (len_ : Int) (j_ : Int) (K : V → Heap → Prop) (J1 : Env → Heap → Prop) : (ex (cfgDo_law09_ExtentPlays_1 m_) (⟨54, 6⟩ : Cx) (at_ (bodyOf Try.f16) [1, 1, 1, 1, 1, 1, 0, 1, 0, 0]) (mkEnv [(0, .row 0), (7, .ptr 6 0), (10, .row 7), (31, .row 8), (32, vi len_), (33, vi j_)]) [.row 0 ws true, .cells U (e_layout_Layout l2), .cells U2 [.row 5], .cells U3 [vi iv], .cells U4 [vi (x.2.1), vi (x.2.2.1), vi (x.2.2.2)], .row 7 acts true, .cells 0 [.row 0, .mp 9, .row 10], .row 0 now_ false, .row 2 ps_ false, .map mm_ mn_, .row 2 nd_ false] (roundK (cfgDo_law09_ExtentPlays_1 m_) (⟨54, 6⟩ : Cx) (at_ (bodyOf Try.f16) [1, 1, 1, 1, 1, 1, 0, 1, 0, 0]) (contK (cfgDo_law09_ExtentPlays_1 m_) (⟨54, 6⟩ : Cx) (bodyOf Try.f16) [1, 1, 1, 1, 1, 1, 0, 1, 0] (retK (cfgDo_law09_ExtentPlays_1 m_) Try.f16 6 K)) J1)) = (
    br (Decidable.decide (j_ < len_)) (Req (inR j_ (List.length ps_)) (Req (inR (offs j_ 0) (List.length ps_)) (br (Decidable.decide (Pr.Addr (List.getD ps_ (Int.toNat (offs j_ 0)) (Pr.mk 0 0)) ≥ (↑(List.length ws) : Int))) (K (.tup [.row 6, .row 7, vi (3)]) [.row 0 (ws : List (Int)) Bool.true, .cells U (e_layout_Layout l2), .cells U2 [.row 5], .cells U3 [vi (iv)], .cells U4 [vi (Prod.fst (Prod.snd x)), vi (Prod.fst (Prod.snd (Prod.snd x))), vi (Prod.snd (Prod.snd (Prod.snd x)))], .row 7 (acts : List (List Int)) Bool.true, .row 0 ([] : List (Int)) Bool.false, .row 2 ([] : List (Pr)) Bool.false]) (Req (inR (Pr.Addr (List.getD ps_ (Int.toNat (offs j_ 0)) (Pr.mk 0 0))) (List.length now_)) (Req (inR (offs (Pr.Addr (List.getD ps_ (Int.toNat (offs j_ 0)) (Pr.mk 0 0))) 0) (List.length now_)) (J1 (mkEnv [(0, .row 0), (7, .ptr 6 0), (10, .row 7), (31, .row 8), (32, vi (len_)), (33, vi (IntKind.wrap IntKind.i64 (j_ + 1)))]) [.row 0 (ws : List (Int)) Bool.true, .cells U (e_layout_Layout l2), .cells U2 [.row 5], .cells U3 [vi (iv)], .cells U4 [vi (Prod.fst (Prod.snd x)), vi (Prod.fst (Prod.snd (Prod.snd x))), vi (Prod.snd (Prod.snd (Prod.snd x)))], .row 7 (acts : List (List Int)) Bool.true, .cells 0 [.row 0, .mp 9, .row 10], .row 0 (List.set now_ (Int.toNat (offs (Pr.Addr (List.getD ps_ (Int.toNat (offs j_ 0)) (Pr.mk 0 0))) 0)) (Pr.Val (List.getD ps_ (Int.toNat (offs j_ 0)) (Pr.mk 0 0))) : List (Int)) Bool.false, .row 2 (ps_ : List (Pr)) Bool.false, .map (mm_) (mn_), .row 2 (nd_ : List (Pr)) Bool.false])))))) (K (.tup [.row 6, .row 7, vi (0)]) [.row 0 (ws : List (Int)) Bool.true, .cells U (e_layout_Layout l2), .cells U2 [.row 5], .cells U3 [vi (iv)], .cells U4 [vi (Prod.fst (Prod.snd x)), vi (Prod.fst (Prod.snd (Prod.snd x))), vi (Prod.snd (Prod.snd (Prod.snd x)))], .row 7 (acts : List (List Int)) Bool.true, .row 0 (now_ : List (Int)) Bool.false, .row 2 (nd_ : List (Pr)) Bool.false])) := by
  kernel_rfl

theorem nf_do_law09_lives_1 (m_ : Nat → (List Int) → T_layout_Layout → Int → Bool → Int → Option ((List Int) × Int × Bool × Int)) (ws : List Int) (l2 : T_layout_Layout) (a : Int) (took : Bool) (b : Int) (U : TypeId) (U2 : TypeId) (U3 : TypeId) (U4 : TypeId) (K : V → Heap → Prop) : (exF (cfgDo_law09_lives_1 m_) Try.f16 [.row 0, .fn 98 [.ptr 1 0, .ptr 2 0, .ptr 3 0, .ptr 4 0]] [.row 0 ws true, .cells U (e_layout_Layout l2), .cells U2 [vi a], .cells U3 [vb took], .cells U4 [vi b]] K) = (
    Req (Decidable.decide (List.length ws ≤ 1048576)) ((∀ (y0 : Go.Value), (((ws = ws) ∧ (((1 ≤ 2) ∧ (So (m_ (List.length ws) ws l2 a took b) (fun (y1 : List Int × Int × Bool × Int) => (((y0 = y0) ∧ ((∀ (y2 : Int → Option Int), ((∀ (y3 : Nat), ((∀ (y4 : List Pr), ((∀ (y5 : List (List Int)), (((ViewOK ws (Prod.fst y1) y2 y4 y5) → (Req (Nat.ble (List.length y5) 1048576) (Req (Decidable.decide (0 + List.length ws ≤ 1048576)) (Loop (cfgDo_law09_lives_1 m_) (⟨54, 5⟩ : Cx) (at_ (bodyOf Try.f16) [1, 1, 1, 1, 1, 1, 0, 1, 0, 0]) (mkEnv [(0, .row 0), (7, .ptr 5 0), (10, .row 6), (31, .row 7), (32, vi ((↑(List.length (List.map prOf y5)) : Int))), (33, vi (0))]) [.row 0 (ws : List (Int)) Bool.true, .cells U (e_layout_Layout l2), .cells U2 [vi (Prod.fst (Prod.snd y1))], .cells U3 [vb (Prod.fst (Prod.snd (Prod.snd y1)))], .cells U4 [vi (Prod.snd (Prod.snd (Prod.snd y1)))], .cells 0 [.row 0, .mp 8, .row 9], .row 0 (ws : List (Int)) Bool.false, .row 2 (List.map prOf y5 : List (Pr)) Bool.false, .map (y2) (y3), .row 2 (y4 : List (Pr)) Bool.false] (contK (cfgDo_law09_lives_1 m_) (⟨54, 5⟩ : Cx) (bodyOf Try.f16) [1, 1, 1, 1, 1, 1, 0, 1, 0] (retK (cfgDo_law09_lives_1 m_) Try.f16 5 K)))))))))))))))))))))))))) := by
  kernel_rfl

theorem nf_do_law09_lives_1_r (m_ : Nat → (List Int) → T_layout_Layout → Int → Bool → Int → Option ((List Int) × Int × Bool × Int)) (ws : List Int) (l2 : T_layout_Layout) (a : Int) (took : Bool) (b : Int) (U : TypeId) (U2 : TypeId) (U3 : TypeId) (U4 : TypeId) (x : (List Int) × Int × Bool × Int) (now_ : List Int) (ps_ : List Pr) (nd_ : List Pr) (mm_ : Int → Option Int) (mn_ : Nat) (len_ : Int) (j_ : Int) (K : V → Heap → Prop) (J1 : Env → Heap → Prop) : (ex (cfgDo_law09_lives_1 m_) (⟨54, 5⟩ : Cx) (at_ (bodyOf Try.f16) [1, 1, 1, 1, 1, 1, 0, 1, 0, 0]) (mkEnv [(0, .row 0), (7, .ptr 5 0), (10, .row 6), (31, .row 7), (32, vi len_), (33, vi j_)]) [.row 0 ws true, .cells U (e_layout_Layout l2), .cells U2 [vi (x.2.1)], .cells U3 [vb (x.2.2.1)], .cells U4 [vi (x.2.2.2)], .cells 0 [.row 0, .mp 8, .row 9], .row 0 now_ false, .row 2 ps_ false, .map mm_ mn_, .row 2 nd_ false] (roundK (cfgDo_law09_lives_1 m_) (⟨54, 5⟩ : Cx) (at_ (bodyOf Try.f16) [1, 1, 1, 1, 1, 1, 0, 1, 0, 0]) (contK (cfgDo_law09_lives_1 m_) (⟨54, 5⟩ : Cx) (bodyOf Try.f16) [1, 1, 1, 1, 1, 1, 0, 1, 0] (retK (cfgDo_law09_lives_1 m_) Try.f16 5 K)) J1)) = (
    br (Decidable.decide (j_ < len_)) (Req (inR j_ (List.length ps_)) (Req (inR (offs j_ 0) (List.length ps_)) (br (Decidable.decide (Pr.Addr (List.getD ps_ (Int.toNat (offs j_ 0)) (Pr.mk 0 0)) ≥ (↑(List.length ws) : Int))) (K (.tup [.row 5, .row 6, vi (3)]) [.row 0 (ws : List (Int)) Bool.true, .cells U (e_layout_Layout l2), .cells U2 [vi (Prod.fst (Prod.snd x))], .cells U3 [vb (Prod.fst (Prod.snd (Prod.snd x)))], .cells U4 [vi (Prod.snd (Prod.snd (Prod.snd x)))], .row 0 ([] : List (Int)) Bool.false, .row 2 ([] : List (Pr)) Bool.false]) (Req (inR (Pr.Addr (List.getD ps_ (Int.toNat (offs j_ 0)) (Pr.mk 0 0))) (List.length now_)) (Req (inR (offs (Pr.Addr (List.getD ps_ (Int.toNat (offs j_ 0)) (Pr.mk 0 0))) 0) (List.length now_)) (J1 (mkEnv [(0, .row 0), (7, .ptr 5 0), (10, .row 6), (31, .row 7), (32, vi (len_)), (33, vi (IntKind.wrap IntKind.i64 (j_ + 1)))]) [.row 0 (ws : List (Int)) Bool.true, .cells U (e_layout_Layout l2), .cells U2 [vi (Prod.fst (Prod.snd x))], .cells U3 [vb (Prod.fst (Prod.snd (Prod.snd x)))], .cells U4 [vi (Prod.snd (Prod.snd (Prod.snd x)))], .cells 0 [.row 0, .mp 8, .row 9], .row 0 (List.set now_ (Int.toNat (offs (Pr.Addr (List.getD ps_ (Int.toNat (offs j_ 0)) (Pr.mk 0 0))) 0)) (Pr.Val (List.getD ps_ (Int.toNat (offs j_ 0)) (Pr.mk 0 0))) : List (Int)) Bool.false, .row 2 (ps_ : List (Pr)) Bool.false, .map (mm_) (mn_), .row 2 (nd_ : List (Pr)) Bool.false])))))) (K (.tup [.row 5, .row 6, vi (0)]) [.row 0 (ws : List (Int)) Bool.true, .cells U (e_layout_Layout l2), .cells U2 [vi (Prod.fst (Prod.snd x))], .cells U3 [vb (Prod.fst (Prod.snd (Prod.snd x)))], .cells U4 [vi (Prod.snd (Prod.snd (Prod.snd x)))], .row 0 (now_ : List (Int)) Bool.false, .row 2 (nd_ : List (Pr)) Bool.false])) := by
  kernel_rfl

attribute [local irreducible] Loop ex exF contK roundK retK at_ bodyOf mkEnv

theorem okdo_law09_ExtentPlays_1 {m_ : Nat → (List Int) → T_layout_Layout → Int → Int → Int → Int → (List (List Int)) → Option ((List Int) × Int × Int × Int)} (hm : SpecOK Try.prog elTT 52 (sp_law09_ExtentPlays_1 m_)) : SpecOK Try.prog elTT 16 (sp_do_law09_ExtentPlays_1 m_) := by
  refine spec_of_exF (cfg := cfgDo_law09_ExtentPlays_1 m_) (cfg_ok rfl rfl rfl) (sigDo_ok hm) (fn := Try.f16) (by kernel_rfl) (by kernel_rfl) (by kernel_rfl) ?_
  intro args H K h
  change tr_do_law09_ExtentPlays_1 m_ args H K at h
  unfold tr_do_law09_ExtentPlays_1 at h
  replace h := aC_el h
  obtain ⟨a0, _, rfl, h⟩ := h
  replace h := aC_el h
  obtain ⟨a1, _, rfl, h⟩ := h
  replace h := aN_el h
  obtain ⟨rfl, h⟩ := h
  replace h := aRow_el h
  obtain ⟨rfl, h⟩ := h
  replace h := aFn_el h
  obtain ⟨cs, rfl, h⟩ := h
  replace h := aC_el h
  obtain ⟨p0, _, rfl, h⟩ := h
  replace h := aC_el h
  obtain ⟨p1, _, rfl, h⟩ := h
  replace h := aC_el h
  obtain ⟨p2, _, rfl, h⟩ := h
  replace h := aC_el h
  obtain ⟨p3, _, rfl, h⟩ := h
  replace h := aN_el h
  obtain ⟨rfl, h⟩ := h
  replace h := aPtr_el h
  obtain ⟨rfl, h⟩ := h
  replace h := aPtr_el h
  obtain ⟨rfl, h⟩ := h
  replace h := aPtr_el h
  obtain ⟨rfl, h⟩ := h
  replace h := aPtr_el h
  obtain ⟨rfl, h⟩ := h
  replace h := aC_el h
  obtain ⟨b5, _, rfl, h⟩ := h
  replace h := aC_el h
  obtain ⟨b1, _, rfl, h⟩ := h
  replace h := aC_el h
  obtain ⟨b2, _, rfl, h⟩ := h
  replace h := aC_el h
  obtain ⟨b3, _, rfl, h⟩ := h
  replace h := aC_el h
  obtain ⟨b4, _, rfl, h⟩ := h
  replace h := aC_el h
  obtain ⟨b6, _, rfl, h⟩ := h
  replace h := aN_el h
  obtain ⟨rfl, h⟩ := h
  replace h := bRow_el h
  obtain ⟨(ws : List Int), rfl, h⟩ := h
  replace h := bCells_el h
  obtain ⟨U, c1, rfl, h⟩ := h
  replace h := d_layout_Layout_el h
  obtain ⟨l2, rfl, h⟩ := h
  replace h := bCells_el h
  obtain ⟨U2, c2, rfl, h⟩ := h
  replace h := aC_el h
  obtain ⟨d2_0, _, rfl, h⟩ := h
  replace h := aRow_el h
  obtain ⟨rfl, h⟩ := h
  replace h := aN_el h
  obtain ⟨rfl, h⟩ := h
  replace h := bCells_el h
  obtain ⟨U3, c3, rfl, h⟩ := h
  replace h := aC_el h
  obtain ⟨d3_0, _, rfl, h⟩ := h
  replace h := aInt_el h
  obtain ⟨iv, rfl, h⟩ := h
  replace h := aN_el h
  obtain ⟨rfl, h⟩ := h
  replace h := bCells_el h
  obtain ⟨U4, c4, rfl, h⟩ := h
  replace h := aC_el h
  obtain ⟨d4_0, _, rfl, h⟩ := h
  replace h := aInt_el h
  obtain ⟨x_0, rfl, h⟩ := h
  replace h := aC_el h
  obtain ⟨d4_1, _, rfl, h⟩ := h
  replace h := aInt_el h
  obtain ⟨x_1, rfl, h⟩ := h
  replace h := aC_el h
  obtain ⟨d4_2, _, rfl, h⟩ := h
  replace h := aInt_el h
  obtain ⟨x_2, rfl, h⟩ := h
  replace h := aN_el h
  obtain ⟨rfl, h⟩ := h
  replace h := bRow_el h
  obtain ⟨(acts : List (List Int)), rfl, h⟩ := h
  replace h := Req_el h
  obtain ⟨hsm, h⟩ := h
  have hsm := Nat.le_of_ble_eq_true hsm
  refine Eq.mpr (nf_do_law09_ExtentPlays_1 m_ ws l2 iv x_0 x_1 x_2 acts U U2 U3 U4 K) (Req_intro (by simpa using hsm) fun y => ⟨rfl, by decide, ?_⟩)
  refine So_imp h fun x hk => ?_
  refine ⟨rfl, fun mm mn nd its hv => Req_intro (Nat.ble_eq_true_of_le (by have := view_its hv; omega)) (Req_intro (decide_eq_true (by omega)) ?_)⟩
  have hlen := view_its hv
  refine loop_ind (σ := Nat) (fun j => (mkEnv [(0, .row 0), (7, .ptr 6 0), (10, .row 7), (31, .row 8), (32, vi ((its.map prOf).length : Int)), (33, vi ((j : Nat) : Int))]))
    (fun j => [.row 0 ws true, .cells U (e_layout_Layout l2), .cells U2 [.row 5], .cells U3 [vi iv], .cells U4 [vi (x.2.1), vi (x.2.2.1), vi (x.2.2.2)], .row 7 acts true, .cells 0 [.row 0, .mp 9, .row 10], .row 0 (nowN ws its j) false, .row 2 (its.map prOf) false, .map mm mn, .row 2 nd false]) (fun j => j ≤ its.length) (fun j => its.length - j) ?_ 0 (Nat.zero_le _)
  intro j hj J hJ
  refine Eq.mpr (nf_do_law09_ExtentPlays_1_r m_ ws l2 iv x_0 x_1 x_2 acts U U2 U3 U4 x (nowN ws its j) (its.map prOf) nd mm mn _ j K J) (br_intro (fun h1 => ?_) (fun h1 => ?_))
  · have h1 : j < its.length := by simpa using h1
    have h1' : j < (its.map prOf).length := by simpa using h1
    obtain ⟨p1, p2⟩ := pr_in hv h1
    have hnx := hJ (j + 1) h1 (by omega)
    simp only [offs_nat, inR_nat h1', Req_true, Int.toNat_natCast, wrap_succ (show j ≤ 4611686018427387904 by omega), prs_get h1]
    simp only [nowN] at hnx
    generalize prOf (its.getD j []) = p at *
    have hoff : offs p.Addr 0 = p.Addr := by
      have e : p.Addr = ((p.Addr.toNat : Nat) : Int) := by omega
      rw [e]; rfl
    have hin : inR p.Addr (nowN ws its j).length = true := by rw [nowN_len]; exact inR_int p1 p2
    refine br_false (decide_eq_false (by omega)) (Req_intro hin (Req_intro (by rw [hoff]; exact hin) ?_))
    rw [hoff]
    exact hnx
  · have h1 : j = its.length := by simp at h1; omega
    subst h1
    rw [nowN_all hv]
    exact hk nd

theorem okdo_law09_lives_1 {m_ : Nat → (List Int) → T_layout_Layout → Int → Bool → Int → Option ((List Int) × Int × Bool × Int)} (hm : SpecOK Try.prog elTT 98 (sp_law09_lives_1 m_)) : SpecOK Try.prog elTT 16 (sp_do_law09_lives_1 m_) := by
  refine spec_of_exF (cfg := cfgDo_law09_lives_1 m_) (cfg_ok rfl rfl rfl) (sigDo_ok hm) (fn := Try.f16) (by kernel_rfl) (by kernel_rfl) (by kernel_rfl) ?_
  intro args H K h
  change tr_do_law09_lives_1 m_ args H K at h
  unfold tr_do_law09_lives_1 at h
  replace h := aC_el h
  obtain ⟨a0, _, rfl, h⟩ := h
  replace h := aC_el h
  obtain ⟨a1, _, rfl, h⟩ := h
  replace h := aN_el h
  obtain ⟨rfl, h⟩ := h
  replace h := aRow_el h
  obtain ⟨rfl, h⟩ := h
  replace h := aFn_el h
  obtain ⟨cs, rfl, h⟩ := h
  replace h := aC_el h
  obtain ⟨p0, _, rfl, h⟩ := h
  replace h := aC_el h
  obtain ⟨p1, _, rfl, h⟩ := h
  replace h := aC_el h
  obtain ⟨p2, _, rfl, h⟩ := h
  replace h := aC_el h
  obtain ⟨p3, _, rfl, h⟩ := h
  replace h := aN_el h
  obtain ⟨rfl, h⟩ := h
  replace h := aPtr_el h
  obtain ⟨rfl, h⟩ := h
  replace h := aPtr_el h
  obtain ⟨rfl, h⟩ := h
  replace h := aPtr_el h
  obtain ⟨rfl, h⟩ := h
  replace h := aPtr_el h
  obtain ⟨rfl, h⟩ := h
  replace h := aC_el h
  obtain ⟨b5, _, rfl, h⟩ := h
  replace h := aC_el h
  obtain ⟨b1, _, rfl, h⟩ := h
  replace h := aC_el h
  obtain ⟨b2, _, rfl, h⟩ := h
  replace h := aC_el h
  obtain ⟨b3, _, rfl, h⟩ := h
  replace h := aC_el h
  obtain ⟨b4, _, rfl, h⟩ := h
  replace h := aN_el h
  obtain ⟨rfl, h⟩ := h
  replace h := bRow_el h
  obtain ⟨(ws : List Int), rfl, h⟩ := h
  replace h := bCells_el h
  obtain ⟨U, c1, rfl, h⟩ := h
  replace h := d_layout_Layout_el h
  obtain ⟨l2, rfl, h⟩ := h
  replace h := bCells_el h
  obtain ⟨U2, c2, rfl, h⟩ := h
  replace h := aC_el h
  obtain ⟨d2_0, _, rfl, h⟩ := h
  replace h := aInt_el h
  obtain ⟨a, rfl, h⟩ := h
  replace h := aN_el h
  obtain ⟨rfl, h⟩ := h
  replace h := bCells_el h
  obtain ⟨U3, c3, rfl, h⟩ := h
  replace h := aC_el h
  obtain ⟨d3_0, _, rfl, h⟩ := h
  replace h := aBool_el h
  obtain ⟨took, rfl, h⟩ := h
  replace h := aN_el h
  obtain ⟨rfl, h⟩ := h
  replace h := bCells_el h
  obtain ⟨U4, c4, rfl, h⟩ := h
  replace h := aC_el h
  obtain ⟨d4_0, _, rfl, h⟩ := h
  replace h := aInt_el h
  obtain ⟨b, rfl, h⟩ := h
  replace h := aN_el h
  obtain ⟨rfl, h⟩ := h
  replace h := Req_el h
  obtain ⟨hsm, h⟩ := h
  have hsm := Nat.le_of_ble_eq_true hsm
  refine Eq.mpr (nf_do_law09_lives_1 m_ ws l2 a took b U U2 U3 U4 K) (Req_intro (by simpa using hsm) fun y => ⟨rfl, by decide, ?_⟩)
  refine So_imp h fun x hk => ?_
  refine ⟨rfl, fun mm mn nd its hv => Req_intro (Nat.ble_eq_true_of_le (by have := view_its hv; omega)) (Req_intro (decide_eq_true (by omega)) ?_)⟩
  have hlen := view_its hv
  refine loop_ind (σ := Nat) (fun j => (mkEnv [(0, .row 0), (7, .ptr 5 0), (10, .row 6), (31, .row 7), (32, vi ((its.map prOf).length : Int)), (33, vi ((j : Nat) : Int))]))
    (fun j => [.row 0 ws true, .cells U (e_layout_Layout l2), .cells U2 [vi (x.2.1)], .cells U3 [vb (x.2.2.1)], .cells U4 [vi (x.2.2.2)], .cells 0 [.row 0, .mp 8, .row 9], .row 0 (nowN ws its j) false, .row 2 (its.map prOf) false, .map mm mn, .row 2 nd false]) (fun j => j ≤ its.length) (fun j => its.length - j) ?_ 0 (Nat.zero_le _)
  intro j hj J hJ
  refine Eq.mpr (nf_do_law09_lives_1_r m_ ws l2 a took b U U2 U3 U4 x (nowN ws its j) (its.map prOf) nd mm mn _ j K J) (br_intro (fun h1 => ?_) (fun h1 => ?_))
  · have h1 : j < its.length := by simpa using h1
    have h1' : j < (its.map prOf).length := by simpa using h1
    obtain ⟨p1, p2⟩ := pr_in hv h1
    have hnx := hJ (j + 1) h1 (by omega)
    simp only [offs_nat, inR_nat h1', Req_true, Int.toNat_natCast, wrap_succ (show j ≤ 4611686018427387904 by omega), prs_get h1]
    simp only [nowN] at hnx
    generalize prOf (its.getD j []) = p at *
    have hoff : offs p.Addr 0 = p.Addr := by
      have e : p.Addr = ((p.Addr.toNat : Nat) : Int) := by omega
      rw [e]; rfl
    have hin : inR p.Addr (nowN ws its j).length = true := by rw [nowN_len]; exact inR_int p1 p2
    refine br_false (decide_eq_false (by omega)) (Req_intro hin (Req_intro (by rw [hoff]; exact hin) ?_))
    rw [hoff]
    exact hnx
  · have h1 : j = its.length := by simp at h1; omega
    subst h1
    rw [nowN_all hv]
    exact hk nd

end Go.Rx
end

section
/- Contracts. -/
namespace Go.Rx
open Go.Proofs
set_option maxRecDepth 100000
set_option maxHeartbeats 4000000
/-! assart/assartlaw09.lives -/
def tr_law09_lives (m_ : Option (Bool)) (args : List V) (H : Heap) (K : V → Heap → Prop) : Prop :=
  aN args <| aN H <| So (m_ ) fun x => K (vb (x)) []
def sp_law09_lives (m_ : Option (Bool)) : Spec := ⟨tr_law09_lives m_, (true : Bool)⟩

/-! assart/assartlaw09.after -/
/-! assart/assartlaw09.ExtentPlays -/
def tr_law09_ExtentPlays (m_ : T_api_Config → (List (List Int)) → Option (Bool)) (args : List V) (H : Heap) (K : V → Heap → Prop) : Prop :=
  aC args fun a0 r => aC r fun a1 r => aN r <| aAgg a0 fun c0 => d_api_Config c0 fun c => aRow 0 a1 <| aC H fun b0 r => aN r <| bRow 7 true b0 fun (acts : List (List Int)) => So (m_ c acts) fun x => K (vb (x)) [.row 7 acts true]
def sp_law09_ExtentPlays (m_ : T_api_Config → (List (List Int)) → Option (Bool)) : Spec := ⟨tr_law09_ExtentPlays m_, (true : Bool)⟩

/-! assart/assartlaw09.ExtentLeast -/
/-! assart/assartlaw09.ExtentBack -/
/-! assart/assartlaw09.ExtentTrim -/
noncomputable def cfg_law09_lives (m_law08_Small : T_api_Config → Option (T_api_Config)) (m_layout_Of : T_api_Config → Option (T_layout_Layout × Int)) (m_layout_Layout_Words : T_layout_Layout → Option (Int)) (m_law09_lives_1 : Nat → (List Int) → T_layout_Layout → Int → Bool → Int → Option ((List Int) × Int × Bool × Int)) (m_layout_Layout_Kind : T_layout_Layout → Int → Option (Int)) : Cfg := { cfgB with
  sigs := (sigC 71 (sp_law08_Small m_law08_Small) (sigC 68 (sp_layout_Of m_layout_Of) (sigC 69 (sp_layout_Layout_Words m_layout_Layout_Words) (sigC 16 (sp_do_law09_lives_1 m_law09_lives_1) (sigC 99 (sp_layout_Layout_Kind m_layout_Layout_Kind) sigN))))) }

noncomputable def cfg_law09_ExtentPlays (m_law09_lives : Option (Bool)) (m_law08_Begin : T_api_Config → Option (T_layout_Layout × T_assartref02_Layout × (List Int))) (m_law09_ExtentPlays_1 : Nat → (List Int) → T_layout_Layout → Int → Int → Int → Int → (List (List Int)) → Option ((List Int) × Int × Int × Int)) (m_law09_told : T_assartref02_Layout → T_assartlaw09_Act → (List Int) → Option (Int × Int × Int × (List Int))) (m_law01_Ints_Same : (List Int) → (List Int) → Option (Bool)) : Cfg := { cfgB with
  sigs := (sigC 51 (sp_law09_lives m_law09_lives) (sigC 15 (sp_law08_Begin m_law08_Begin) (sigC 16 (sp_do_law09_ExtentPlays_1 m_law09_ExtentPlays_1) (sigC 54 (sp_law09_told m_law09_told) (sigC 20 (sp_law01_Ints_Same m_law01_Ints_Same) sigN))))),
  keep := fun r => match r with | 6 => some [(3, none), (5, none), (6, none), (7, some 0), (8, some 0), (9, none)] | _ => none,
  planT := fun r => match r with | 10 => some ((chainT [0, 1, 2, 3, 4, 5] (.alt (chainT [6, 7, 8] .fin) (chainT [7, 6, 8] .fin))), 32785) | _ => none,
  flag := fun d => Nat.beq d 14 }

theorem nf_law09_lives (m_law08_Small : T_api_Config → Option (T_api_Config)) (m_layout_Of : T_api_Config → Option (T_layout_Layout × Int)) (m_layout_Layout_Words : T_layout_Layout → Option (Int)) (m_law09_lives_1 : Nat → (List Int) → T_layout_Layout → Int → Bool → Int → Option ((List Int) × Int × Bool × Int)) (m_layout_Layout_Kind : T_layout_Layout → Int → Option (Int)) (K : V → Heap → Prop) : (exF (cfg_law09_lives m_law08_Small m_layout_Of m_layout_Layout_Words m_law09_lives_1 m_layout_Layout_Kind) Try.f51 [] [] K) = (
    So (m_law08_Small (T_api_Config.mk 0 0 0 0 0 0 0 0 0 0 0)) (fun (y0 : T_api_Config) => (So (m_layout_Of (T_api_Config.mk (T_api_Config.Workers y0) (T_api_Config.CPUs y0) 5 (T_api_Config.Stripes y0) (T_api_Config.Tries y0) (T_api_Config.Wait y0) (T_api_Config.Clock y0) (T_api_Config.Private y0) (T_api_Config.Cache y0) (T_api_Config.Bin y0) (T_api_Config.Batch y0))) (fun (y1 : T_layout_Layout × Int) => (So (m_layout_Layout_Words (Prod.fst y1)) (fun (y2 : Int) => (Req (Decidable.decide (0 ≤ y2 ∧ y2 ≤ y2 ∧ y2 ≤ 1048576)) (Req (Nat.ble (List.length (List.replicate (Int.toNat y2) (0 : Int))) (1048576 : Nat)) (So (m_law09_lives_1 (List.length (List.replicate (Int.toNat y2) (0 : Int))) (List.replicate (Int.toNat y2) (0 : Int)) (Prod.fst y1) (-1 : Int) Bool.false (-1 : Int)) (fun (y3 : List Int × Int × Bool × Int) => ((∀ (y4 : List Pr), (br (Prod.snd y1 == 0) (br (Prod.fst (Prod.snd y3) == 0) (br (Prod.fst (Prod.snd (Prod.snd y3))) (br (Prod.snd (Prod.snd (Prod.snd y3)) == 2) (So (m_layout_Layout_Words (Prod.fst y1)) (fun (y5 : Int) => (br ((↑(List.length (Prod.fst y3)) : Int) == y5) (So (m_layout_Layout_Kind (Prod.fst y1) 0) (fun (y6 : Int) => (Req (inR y6 (List.length (Prod.fst y3))) (Req (inR (offs y6 0) (List.length (Prod.fst y3))) (K (vb (List.getD (Prod.fst y3) (Int.toNat (offs y6 0)) 0 == 3)) []))))) (K (vb (Bool.false)) [])))) (K (vb (Bool.false)) [])) (K (vb (Bool.false)) [])) (K (vb (Bool.false)) [])) (K (vb (Bool.false)) [])))))))))))))) := by
  kernel_rfl

theorem nf_law09_ExtentPlays_L1 (m_law09_lives : Option (Bool)) (m_law08_Begin : T_api_Config → Option (T_layout_Layout × T_assartref02_Layout × (List Int))) (m_law09_ExtentPlays_1 : Nat → (List Int) → T_layout_Layout → Int → Int → Int → Int → (List (List Int)) → Option ((List Int) × Int × Int × Int)) (m_law09_told : T_assartref02_Layout → T_assartlaw09_Act → (List Int) → Option (Int × Int × Int × (List Int))) (m_law01_Ints_Same : (List Int) → (List Int) → Option (Bool)) (c : T_api_Config) (acts : List (List Int)) (c2 : T_layout_Layout) (c3 : T_assartref02_Layout) (w : List Int) (w2 : List Int) (c4 : Int) (K : V → Heap → Prop) (J1 : Env → Heap → Prop) : (ex (cfg_law09_ExtentPlays m_law09_lives m_law08_Begin m_law09_ExtentPlays_1 m_law09_told m_law01_Ints_Same) (⟨64, 1⟩ : Cx) (at_ (bodyOf Try.f10) [1, 1, 1, 1, 0, 1, 0, 0]) (mkEnv [(3, .ptr 1 0), (5, .ptr 2 0), (6, .ptr 3 0), (7, .row 4), (8, .row 5), (9, .ptr 6 0)]) [.row 7 (acts : List (List Int)) Bool.true, .cells 77 [.row 0], .cells 28 (e_layout_Layout c2), .cells 30 (e_api_Config (T_assartref02_Layout.C c3)), .row 0 (w : List (Int)) Bool.false, .row 0 (w2 : List (Int)) Bool.false, .cells 3 [vi (c4)]] (roundK (cfg_law09_ExtentPlays m_law09_lives m_law08_Begin m_law09_ExtentPlays_1 m_law09_told m_law01_Ints_Same) (⟨64, 1⟩ : Cx) (at_ (bodyOf Try.f10) [1, 1, 1, 1, 0, 1, 0, 0]) (contK (cfg_law09_ExtentPlays m_law09_lives m_law08_Begin m_law09_ExtentPlays_1 m_law09_told m_law01_Ints_Same) (⟨64, 1⟩ : Cx) (bodyOf Try.f10) [1, 1, 1, 1, 0, 1, 0] (retK (cfg_law09_ExtentPlays m_law09_lives m_law08_Begin m_law09_ExtentPlays_1 m_law09_told m_law01_Ints_Same) Try.f10 1 K)) J1)) = (
    br (Decidable.decide (c4 < (↑(List.length acts) : Int))) (Req (Nat.ble (List.length w) 1048576) (So (m_law09_ExtentPlays_1 (List.length w) w c2 c4 0 0 0 acts) (fun (y0 : List Int × Int × Int × Int) => ((∀ (y1 : List Pr), (Req (inR c4 (List.length acts)) (Req (inR (offs c4 0) (List.length acts)) (((So (m_law09_told c3 (T_assartlaw09_Act.mk (List.getD (List.getD acts (Int.toNat (offs c4 (0 : Nat))) (List.replicate (4 : Nat) (0 : Int))) (0 : Nat) (0 : Int)) (List.getD (List.getD acts (Int.toNat (offs c4 (0 : Nat))) (List.replicate (4 : Nat) (0 : Int))) (1 : Nat) (0 : Int)) (List.getD (List.getD acts (Int.toNat (offs c4 (0 : Nat))) (List.replicate (4 : Nat) (0 : Int))) (2 : Nat) (0 : Int)) (List.getD (List.getD acts (Int.toNat (offs c4 (0 : Nat))) (List.replicate (4 : Nat) (0 : Int))) (3 : Nat) (0 : Int))) w2) (fun (y2 : Int × Int × Int × List Int) => (br (!(Prod.fst (Prod.snd y0) == Prod.fst y2 && (Prod.fst (Prod.snd (Prod.snd y0)) == Prod.fst (Prod.snd y2) && (Prod.snd (Prod.snd (Prod.snd y0)) == Prod.fst (Prod.snd (Prod.snd y2)) && Bool.true)))) (K (vb (Bool.false)) [.row 7 (acts : List (List Int)) Bool.true]) (So (m_law01_Ints_Same (Prod.fst y0) (Prod.snd (Prod.snd (Prod.snd y2)))) (fun (y3 : Bool) => (br (!y3) (K (vb (Bool.false)) [.row 7 (acts : List (List Int)) Bool.true]) (J1 (mkEnv [(3, .ptr 1 0), (5, .ptr 2 0), (6, .ptr 3 0), (7, .row 4), (8, .row 5), (9, .ptr 6 0)]) [.row 7 (acts : List (List Int)) Bool.true, .cells 77 [.row 0], .cells 28 (e_layout_Layout c2), .cells 30 (e_api_Config (T_assartref02_Layout.C c3)), .row 0 (Prod.fst y0 : List (Int)) Bool.false, .row 0 (Prod.snd (Prod.snd (Prod.snd y2)) : List (Int)) Bool.false, .cells 3 [vi (IntKind.wrap IntKind.i64 (c4 + 1))]]))))))) ∧ (So (m_law09_told c3 (T_assartlaw09_Act.mk (List.getD (List.getD acts (Int.toNat (offs c4 (0 : Nat))) (List.replicate (4 : Nat) (0 : Int))) (0 : Nat) (0 : Int)) (List.getD (List.getD acts (Int.toNat (offs c4 (0 : Nat))) (List.replicate (4 : Nat) (0 : Int))) (1 : Nat) (0 : Int)) (List.getD (List.getD acts (Int.toNat (offs c4 (0 : Nat))) (List.replicate (4 : Nat) (0 : Int))) (2 : Nat) (0 : Int)) (List.getD (List.getD acts (Int.toNat (offs c4 (0 : Nat))) (List.replicate (4 : Nat) (0 : Int))) (3 : Nat) (0 : Int))) w2) (fun (y4 : Int × Int × Int × List Int) => (br (!(Prod.fst (Prod.snd y0) == Prod.fst y4 && (Prod.fst (Prod.snd (Prod.snd y0)) == Prod.fst (Prod.snd y4) && (Prod.snd (Prod.snd (Prod.snd y0)) == Prod.fst (Prod.snd (Prod.snd y4)) && Bool.true)))) (K (vb (Bool.false)) [.row 7 (acts : List (List Int)) Bool.true]) (So (m_law01_Ints_Same (Prod.fst y0) (Prod.snd (Prod.snd (Prod.snd y4)))) (fun (y5 : Bool) => (br (!y5) (K (vb (Bool.false)) [.row 7 (acts : List (List Int)) Bool.true]) (J1 (mkEnv [(3, .ptr 1 0), (5, .ptr 2 0), (6, .ptr 3 0), (7, .row 4), (8, .row 5), (9, .ptr 6 0)]) [.row 7 (acts : List (List Int)) Bool.true, .cells 77 [.row 0], .cells 28 (e_layout_Layout c2), .cells 30 (e_api_Config (T_assartref02_Layout.C c3)), .row 0 (Prod.fst y0 : List (Int)) Bool.false, .row 0 (Prod.snd (Prod.snd (Prod.snd y4)) : List (Int)) Bool.false, .cells 3 [vi (IntKind.wrap IntKind.i64 (c4 + 1))]])))))))))))))))) (So (m_law09_lives) (fun (y6 : Bool) => (K (vb (y6)) [.row 7 (acts : List (List Int)) Bool.true])))) := by
  kernel_rfl

theorem nf_law09_ExtentPlays (m_law09_lives : Option (Bool)) (m_law08_Begin : T_api_Config → Option (T_layout_Layout × T_assartref02_Layout × (List Int))) (m_law09_ExtentPlays_1 : Nat → (List Int) → T_layout_Layout → Int → Int → Int → Int → (List (List Int)) → Option ((List Int) × Int × Int × Int)) (m_law09_told : T_assartref02_Layout → T_assartlaw09_Act → (List Int) → Option (Int × Int × Int × (List Int))) (m_law01_Ints_Same : (List Int) → (List Int) → Option (Bool)) (c : T_api_Config) (acts : List (List Int)) (K : V → Heap → Prop) : (exF (cfg_law09_ExtentPlays m_law09_lives m_law08_Begin m_law09_ExtentPlays_1 m_law09_told m_law01_Ints_Same) Try.f10 [.agg (e_api_Config c), .row 0] [.row 7 acts true] K) = (
    br (Decidable.decide ((↑(List.length acts) : Int) > 100)) (So (m_law09_lives) (fun (y0 : Bool) => (K (vb (y0)) [.row 7 (acts : List (List Int)) Bool.true]))) (So (m_law08_Begin c) (fun (y1 : T_layout_Layout × T_assartref02_Layout × List Int) => (Req (Decidable.decide (0 + List.length (Prod.snd (Prod.snd y1)) ≤ 1048576)) (Loop (cfg_law09_ExtentPlays m_law09_lives m_law08_Begin m_law09_ExtentPlays_1 m_law09_told m_law01_Ints_Same) (⟨64, 1⟩ : Cx) (at_ (bodyOf Try.f10) [1, 1, 1, 1, 0, 1, 0, 0]) (mkEnv [(3, .ptr 1 0), (5, .ptr 2 0), (6, .ptr 3 0), (7, .row 4), (8, .row 5), (9, .ptr 6 0)]) [.row 7 (acts : List (List Int)) Bool.true, .cells 77 [.row 0], .cells 28 (e_layout_Layout (Prod.fst y1)), .cells 30 (e_api_Config (T_assartref02_Layout.C (Prod.fst (Prod.snd y1)))), .row 0 (Prod.snd (Prod.snd y1) : List (Int)) Bool.false, .row 0 (Prod.snd (Prod.snd y1) : List (Int)) Bool.false, .cells 3 [vi (0)]] (contK (cfg_law09_ExtentPlays m_law09_lives m_law08_Begin m_law09_ExtentPlays_1 m_law09_told m_law01_Ints_Same) (⟨64, 1⟩ : Cx) (bodyOf Try.f10) [1, 1, 1, 1, 0, 1, 0] (retK (cfg_law09_ExtentPlays m_law09_lives m_law08_Begin m_law09_ExtentPlays_1 m_law09_told m_law01_Ints_Same) Try.f10 1 K))))))) := by
  kernel_rfl

noncomputable def m_law09_lives  : Option (Bool) :=
  ((m_law08_Small (T_api_Config.mk 0 0 0 0 0 0 0 0 0 0 0)).bind fun y0 => ((m_layout_Of (T_api_Config.mk (T_api_Config.Workers y0) (T_api_Config.CPUs y0) 5 (T_api_Config.Stripes y0) (T_api_Config.Tries y0) (T_api_Config.Wait y0) (T_api_Config.Clock y0) (T_api_Config.Private y0) (T_api_Config.Cache y0) (T_api_Config.Bin y0) (T_api_Config.Batch y0))).bind fun y1 => ((m_layout_Layout_Words (Prod.fst y1)).bind fun y2 => (bif (Decidable.decide (0 ≤ y2 ∧ y2 ≤ y2 ∧ y2 ≤ 1048576)) then (bif (Nat.ble (List.length (List.replicate (Int.toNat y2) (0 : Int))) (1048576 : Nat)) then ((m_law09_lives_1 (List.length (List.replicate (Int.toNat y2) (0 : Int))) (List.replicate (Int.toNat y2) (0 : Int)) (Prod.fst y1) (-1 : Int) Bool.false (-1 : Int)).bind fun y3 => (bif (Prod.snd y1 == 0) then (bif (Prod.fst (Prod.snd y3) == 0) then (bif (Prod.fst (Prod.snd (Prod.snd y3))) then (bif (Prod.snd (Prod.snd (Prod.snd y3)) == 2) then ((m_layout_Layout_Words (Prod.fst y1)).bind fun y5 => (bif ((↑(List.length (Prod.fst y3)) : Int) == y5) then ((m_layout_Layout_Kind (Prod.fst y1) 0).bind fun y6 => (bif (inR y6 (List.length (Prod.fst y3))) then (bif (inR (offs y6 0) (List.length (Prod.fst y3))) then some ((List.getD (Prod.fst y3) (Int.toNat (offs y6 0)) 0 == 3)) else none) else none)) else some ((Bool.false)))) else some ((Bool.false))) else some ((Bool.false))) else some ((Bool.false))) else some ((Bool.false)))) else none) else none))))

noncomputable def sb_law09_ExtentPlays_L1 (acts : List (List Int)) (c2 : T_layout_Layout) (c3 : T_assartref02_Layout) (w : List Int) (w2 : List Int) (c4 : Int) : Option (((List Int) × (List Int) × Int) ⊕ (Bool)) :=
  (bif (Decidable.decide (c4 < (↑(List.length acts) : Int))) then (bif (Nat.ble (List.length w) 1048576) then ((m_law09_ExtentPlays_1 (List.length w) w c2 c4 0 0 0 acts).bind fun y0 => (bif (inR c4 (List.length acts)) then (bif (inR (offs c4 0) (List.length acts)) then ((m_law09_told c3 (T_assartlaw09_Act.mk (List.getD (List.getD acts (Int.toNat (offs c4 (0 : Nat))) (List.replicate (4 : Nat) (0 : Int))) (0 : Nat) (0 : Int)) (List.getD (List.getD acts (Int.toNat (offs c4 (0 : Nat))) (List.replicate (4 : Nat) (0 : Int))) (1 : Nat) (0 : Int)) (List.getD (List.getD acts (Int.toNat (offs c4 (0 : Nat))) (List.replicate (4 : Nat) (0 : Int))) (2 : Nat) (0 : Int)) (List.getD (List.getD acts (Int.toNat (offs c4 (0 : Nat))) (List.replicate (4 : Nat) (0 : Int))) (3 : Nat) (0 : Int))) w2).bind fun y4 => (bif (!(Prod.fst (Prod.snd y0) == Prod.fst y4 && (Prod.fst (Prod.snd (Prod.snd y0)) == Prod.fst (Prod.snd y4) && (Prod.snd (Prod.snd (Prod.snd y0)) == Prod.fst (Prod.snd (Prod.snd y4)) && Bool.true)))) then some (.inr ((Bool.false))) else ((m_law01_Ints_Same (Prod.fst y0) (Prod.snd (Prod.snd (Prod.snd y4)))).bind fun y5 => (bif (!y5) then some (.inr ((Bool.false))) else some (.inl ((Prod.fst y0), (Prod.snd (Prod.snd (Prod.snd y4))), (IntKind.wrap IntKind.i64 (c4 + 1)))))))) else none) else none)) else none) else ((m_law09_lives).bind fun y6 => some (.inr ((y6)))))

noncomputable def lp_law09_ExtentPlays_L1 (acts : List (List Int)) (c2 : T_layout_Layout) (c3 : T_assartref02_Layout) (s : (List Int) × (List Int) × Int) : Option (Bool) :=
  loopO (fun s => sb_law09_ExtentPlays_L1 acts c2 c3 s.1 s.2.1 s.2.2) s

noncomputable def m_law09_ExtentPlays (c : T_api_Config) (acts : List (List Int)) : Option (Bool) :=
  (bif (Decidable.decide ((↑(List.length acts) : Int) > 100)) then ((m_law09_lives).bind fun y0 => some ((y0))) else ((m_law08_Begin c).bind fun y1 => (bif (Decidable.decide (0 + List.length (Prod.snd (Prod.snd y1)) ≤ 1048576)) then (lp_law09_ExtentPlays_L1 acts (Prod.fst y1) (Prod.fst (Prod.snd y1)) ((Prod.snd (Prod.snd y1)), (Prod.snd (Prod.snd y1)), (0))) else none)))

attribute [local irreducible] Loop ex exF contK roundK retK at_ bodyOf mkEnv
theorem ok_law09_lives : SpecOK Try.prog elTT 51 (sp_law09_lives m_law09_lives) := by
  refine spec_of_exF (cfg := (cfg_law09_lives m_law08_Small m_layout_Of m_layout_Layout_Words m_law09_lives_1 m_layout_Layout_Kind)) (cfg_ok rfl rfl rfl) (sig_cons ok_law08_Small (sig_cons ok_layout_Of (sig_cons ok_layout_Layout_Words (sig_cons (okdo_law09_lives_1 ok_law09_lives_1) (sig_cons ok_layout_Layout_Kind sig_nil))))) (fn := Try.f51) (by kernel_rfl) (by kernel_rfl) (by kernel_rfl) ?_
  intro args H K h
  change tr_law09_lives m_law09_lives args H K at h
  unfold tr_law09_lives at h
  replace h := aN_el h
  obtain ⟨rfl, h⟩ := h
  replace h := aN_el h
  obtain ⟨rfl, h⟩ := h
  refine Eq.mpr (nf_law09_lives m_law08_Small m_layout_Of m_layout_Layout_Words m_law09_lives_1 m_layout_Layout_Kind  K) ?_
  unfold m_law09_lives at h
  revert h
  exact bind_So fun y0 => bind_So fun y1 => bind_So fun y2 => req_So (req_So (bind_So fun y3 => all_So fun y4 => br_So (br_So (br_So (br_So (bind_So fun y5 => br_So (bind_So fun y6 => req_So (req_So (fun h => h))) (fun h => h)) (fun h => h)) (fun h => h)) (fun h => h)) (fun h => h)))

theorem lpok_law09_ExtentPlays_L1 (c : T_api_Config) (acts : List (List Int)) (c2 : T_layout_Layout) (c3 : T_assartref02_Layout) (w : List Int) (w2 : List Int) (c4 : Int) (K : V → Heap → Prop) : So (lp_law09_ExtentPlays_L1 (acts) (c2) (c3) (w, w2, c4)) (fun (x : Bool) => K (vb (x)) [.row 7 acts true]) → Loop (cfg_law09_ExtentPlays m_law09_lives m_law08_Begin m_law09_ExtentPlays_1 m_law09_told m_law01_Ints_Same) (⟨64, 1⟩ : Cx) (at_ (bodyOf Try.f10) [1, 1, 1, 1, 0, 1, 0, 0]) (mkEnv [(3, .ptr 1 0), (5, .ptr 2 0), (6, .ptr 3 0), (7, .row 4), (8, .row 5), (9, .ptr 6 0)]) [.row 7 (acts : List (List Int)) Bool.true, .cells 77 [.row 0], .cells 28 (e_layout_Layout c2), .cells 30 (e_api_Config (T_assartref02_Layout.C c3)), .row 0 (w : List (Int)) Bool.false, .row 0 (w2 : List (Int)) Bool.false, .cells 3 [vi (c4)]] (contK (cfg_law09_ExtentPlays m_law09_lives m_law08_Begin m_law09_ExtentPlays_1 m_law09_told m_law01_Ints_Same) (⟨64, 1⟩ : Cx) (bodyOf Try.f10) [1, 1, 1, 1, 0, 1, 0] (retK (cfg_law09_ExtentPlays m_law09_lives m_law08_Begin m_law09_ExtentPlays_1 m_law09_told m_law01_Ints_Same) Try.f10 1 K)) := by
  refine loopK_So (fun (s_ : (List Int) × (List Int) × Int) => (mkEnv [(3, .ptr 1 0), (5, .ptr 2 0), (6, .ptr 3 0), (7, .row 4), (8, .row 5), (9, .ptr 6 0)])) (fun (s_ : (List Int) × (List Int) × Int) => [.row 7 (acts : List (List Int)) Bool.true, .cells 77 [.row 0], .cells 28 (e_layout_Layout c2), .cells 30 (e_api_Config (T_assartref02_Layout.C c3)), .row 0 ((s_.1) : List (Int)) Bool.false, .row 0 ((s_.2.1) : List (Int)) Bool.false, .cells 3 [vi ((s_.2.2))]]) (fun (x : Bool) => K (vb (x)) [.row 7 acts true]) ?_ (w, w2, c4)
  intro s_ J1 h
  clear w
  clear w2
  clear c4
  obtain ⟨w, w2, c4⟩ := s_
  refine Eq.mpr (nf_law09_ExtentPlays_L1 m_law09_lives m_law08_Begin m_law09_ExtentPlays_1 m_law09_told m_law01_Ints_Same c acts c2 c3 w w2 c4 K J1) ?_
  have h : So (sb_law09_ExtentPlays_L1 (acts) (c2) (c3) w w2 c4) _ := h
  unfold sb_law09_ExtentPlays_L1 at h
  revert h
  exact br_So (req_So (bind_So fun y0 => all_So fun y1 => req_So (req_So (alt_So (bind_So fun y2 => br_So (fun h => h) (bind_So fun y3 => br_So (fun h => h) (fun h => h))) (bind_So fun y4 => br_So (fun h => h) (bind_So fun y5 => br_So (fun h => h) (fun h => h))))))) (bind_So fun y6 => fun h => h)

theorem ok_law09_ExtentPlays : SpecOK Try.prog elTT 10 (sp_law09_ExtentPlays m_law09_ExtentPlays) := by
  refine spec_of_exF (cfg := (cfg_law09_ExtentPlays m_law09_lives m_law08_Begin m_law09_ExtentPlays_1 m_law09_told m_law01_Ints_Same)) (cfg_ok rfl rfl rfl) (sig_cons ok_law09_lives (sig_cons ok_law08_Begin (sig_cons (okdo_law09_ExtentPlays_1 ok_law09_ExtentPlays_1) (sig_cons ok_law09_told (sig_cons ok_law01_Ints_Same sig_nil))))) (fn := Try.f10) (by kernel_rfl) (by kernel_rfl) (by kernel_rfl) ?_
  intro args H K h
  change tr_law09_ExtentPlays m_law09_ExtentPlays args H K at h
  unfold tr_law09_ExtentPlays at h
  replace h := aC_el h
  obtain ⟨a0, _, rfl, h⟩ := h
  replace h := aC_el h
  obtain ⟨a1, _, rfl, h⟩ := h
  replace h := aN_el h
  obtain ⟨rfl, h⟩ := h
  replace h := aAgg_el h
  obtain ⟨c0, rfl, h⟩ := h
  replace h := d_api_Config_el h
  obtain ⟨c, rfl, h⟩ := h
  replace h := aRow_el h
  obtain ⟨rfl, h⟩ := h
  replace h := aC_el h
  obtain ⟨b0, _, rfl, h⟩ := h
  replace h := aN_el h
  obtain ⟨rfl, h⟩ := h
  replace h := bRow_el h
  obtain ⟨(acts : List (List Int)), rfl, h⟩ := h
  refine Eq.mpr (nf_law09_ExtentPlays m_law09_lives m_law08_Begin m_law09_ExtentPlays_1 m_law09_told m_law01_Ints_Same c acts K) ?_
  unfold m_law09_ExtentPlays at h
  revert h
  exact br_So (bind_So fun y0 => fun h => h) (bind_So fun y1 => req_So (lpok_law09_ExtentPlays_L1 c acts (Prod.fst y1) (Prod.fst (Prod.snd y1)) (Prod.snd (Prod.snd y1)) (Prod.snd (Prod.snd y1)) (0) K))

end Go.Rx
end

section
/- The laws of chapter 9, plainly. -/
namespace Go.Rx
open Go.Proofs

theorem LayOK.words9 {L : T_layout_Layout} (h : LayOK L) : 128 ≤ L.at_11 ∧ L.at_11 ≤ 40000 := by
  have hb := h.big; have h11 := h.a11; have hp := h.pages
  omega

theorem lives09_eq : m_law09_lives = some true := by
  unfold m_law09_lives
  obtain ⟨d, hS, hR⟩ := Small_eq (T_api_Config.mk 0 0 0 0 0 0 0 0 0 0 0)
  rw [hS, Option.bind_some, Of_eq]
  have hR' : RightC (T_api_Config.mk d.Workers d.CPUs 5 d.Stripes d.Tries d.Wait d.Clock d.Private d.Cache d.Bin d.Batch) :=
    ⟨hR.workers, hR.cpus, by simp only; omega, hR.stripes, hR.tries, hR.wait, hR.clock, hR.private_, hR.cache, hR.bin, hR.batch⟩
  rw [if_pos hR', Option.bind_some, Words_eq, Option.bind_some]
  have hL := layC_ok hR'
  have hP : (layC (T_api_Config.mk d.Workers d.CPUs 5 d.Stripes d.Tries d.Wait d.Clock d.Private d.Cache d.Bin d.Batch)).c.Pages = 5 := rfl
  simp only
  generalize layC (T_api_Config.mk d.Workers d.CPUs 5 d.Stripes d.Tries d.Wait d.Clock d.Private d.Cache d.Bin d.Batch) = L at *
  have hw := hL.words9
  have g := hL.geoK
  have v0 := rep_VOK hL
  have hlen : (List.replicate L.at_11.toNat (0 : Int)).length = L.at_11.toNat := by simp
  rw [decide_eq_true (by omega), cond_true, Nat.ble_eq_true_of_le (by rw [hlen]; omega), cond_true]
  have hz : ∀ (b : Int), wd (List.replicate L.at_11.toNat 0) b = 0 := fun b => by
    simp [wd, List.getD, List.getElem?_replicate]; split <;> rfl
  generalize List.replicate L.at_11.toNat (0 : Int) = w at *
  have hk0 : ∀ q, 0 ≤ q → q < 5 → knd L.at_1 L.c.Pages w q = 0 := fun q a b => by rw [knd_in (by omega), hz]
  have hm0 : ∀ j, isB w L.c.Pages L.at_0 j 1 = false := fun j => by
    unfold isB
    have : w.getD (L.at_0 + j).toNat 0 = 0 := hz _
    rw [this]; cases thereB L.c.Pages j <;> rfl
  -- the first run
  obtain ⟨a, fa1, fa2⟩ := eFind_eq v0 2 1
  have ea : a = 0 := by
    refine fa2.uniq ?_
    unfold FindR
    rw [if_pos (by omega)]
    refine .inr ⟨.inl ⟨rfl, fun q q0 q1 dd => ?_⟩, fit_hit ⟨by decide, by omega, fun j j0 j1 => hk0 j j0 (by omega)⟩ (fun q q0 q1 => by omega)⟩
    have := (dd.all q (by omega) (by omega)).2
    unfold mpd at this
    rw [hm0] at this; cases this
  subst ea
  -- one page taken
  have m : MayTake L w 0 1 3 := ⟨by omega, fun _ => rfl, ⟨by omega, fun i a b => hz _⟩⟩
  obtain ⟨b, u, t1, t2⟩ := eTake_eq v0 0 1 3
  rcases t2 with ⟨rfl, _, t⟩ | ⟨_, h, _⟩
  rotate_left
  · exact (h m).elim
  obtain ⟨tk, f, hoff, hk⟩ := t.parts v0 m
  have vu : VOK L w.length u := ⟨hL, t.len, v0.all⟩
  have hku : ∀ q, 0 ≤ q → q < 5 → knd L.at_1 L.c.Pages u q = if q = 0 then 3 else 0 := fun q a b => by
    rw [tk.knd]
    by_cases e : q = 0
    · rw [if_pos e, if_pos e]
    · rw [if_neg e, if_neg e, if_neg (by omega), hk, hk0 q a b]
  have hmu : ∀ j, isB u L.c.Pages L.at_0 j 1 = (decide (0 ≤ j) && decide (j ≤ 0)) := fun j => by
    rw [isB_congr (u := u) (w := (ensM w L.c.Pages L.at_0 0 1).2) (by omega) (fun b h1 h2 => tk.off b (by omega) (by omega)), ens_isB' v0 (by omega), hm0]; rfl
  -- the second run
  obtain ⟨a2, fb1, fb2⟩ := eFind_eq vu 2 2
  have ea : a2 = 2 := by
    refine fb2.uniq ?_
    unfold FindR
    rw [if_pos (by omega)]
    refine .inl ⟨by omega, fit_hit ⟨by decide, by omega, fun j j0 j1 => ⟨by show knd L.at_1 L.c.Pages u j = 0; rw [hku j (by omega) (by omega), if_neg (by omega)], ?_⟩⟩ (fun q q0 q1 dd => ?_)⟩
    · unfold mpd
      rw [hmu, decide_eq_true (by omega), decide_eq_true (by omega)]; rfl
    · have h1 := dd.mul
      have e : q = 0 := by omega
      have : knd L.at_1 L.c.Pages u 0 = 0 := (dd.all 0 (by omega) (by omega)).1
      rw [hku 0 (by omega) (by omega), if_pos rfl] at this
      omega
  subst ea
  unfold m_law09_lives_1
  rw [fa1, Option.bind_some, t1, Option.bind_some]
  simp only
  rw [fb1]
  have hkw : u.getD (L.at_1 + 0).toNat 0 = 3 := by
    have := hku 0 (by omega) (by omega)
    rw [knd_in (by omega), if_pos rfl] at this
    exact this
  have e1 : ((u.length : Int) == L.at_11) = true := by rw [t.len, hlen]; simp; omega
  have e2 : lPg L L.at_1 0 = L.at_1 + 0 := by unfold lPg; rw [if_pos (by omega)]
  have hul := t.len
  simp only [Option.bind_some, beq_self_eq_true, cond_true, Words_eq, e1, Kind_eq hL, e2]
  rw [offs_id (by omega), inR_int (by omega) (by omega), cond_true, cond_true, hkw]; rfl

theorem ExtentPlays_main (c : T_api_Config) (acts : List (List Int)) : m_law09_ExtentPlays c acts = some true := by
  unfold m_law09_ExtentPlays
  by_cases hl : (acts.length : Int) > 100
  · rw [decide_eq_true hl, cond_true, lives09_eq]; rfl
  rw [decide_eq_false hl, cond_false]
  obtain ⟨d, hR, hB⟩ := Begin_eq c
  have hL := layC_ok hR
  have hw := hL.words9
  have hlen : (List.replicate (layC d).at_11.toNat (0 : Int)).length = (layC d).at_11.toNat := by simp
  rw [hB, Option.bind_some]
  simp only
  rw [decide_eq_true (by rw [hlen]; omega), cond_true]
  obtain ⟨r, k1, rfl⟩ := loopO_ind (step := fun s : List Int × List Int × Int => sb_law09_ExtentPlays_L1 acts (layC d) ⟨d⟩ s.1 s.2.1 s.2.2)
    (I := fun s => ∃ j : Nat, j ≤ acts.length ∧ s.2.2 = j ∧ s.2.1 = s.1 ∧ s.1.length = (layC d).at_11.toNat) (μ := fun s => acts.length - s.2.2.toNat) (fun r => r = true) (by
      rintro ⟨w, w2, _⟩ ⟨j, hj, rfl, e1, e2⟩
      simp only at e1 e2 ⊢
      subst e1
      have v : VOK (layC d) w2.length w2 := ⟨hL, rfl, by omega⟩
      simp only [sb_law09_ExtentPlays_L1]
      by_cases cc : j < acts.length
      · have ho : offs (j : Int) 0 = (j : Int) := rfl
        obtain ⟨⟨x0, x1, x2, u⟩, h1, h2, h3⟩ := same9 hR v ⟨acts[j].getD 0 0, acts[j].getD 1 0, acts[j].getD 2 0, acts[j].getD 3 0⟩
        simp only at h3
        rw [decide_eq_true (show (j : Int) < (acts.length : Int) by omega), cond_true, Nat.ble_eq_true_of_le (by omega), cond_true]
        unfold m_law09_ExtentPlays_1
        simp only [ho, inR_nat cc, cond_true, Int.toNat_natCast, acts4 j cc, h1, h2, Option.bind_some, beq_self_eq_true, Bool.and_true, Bool.and_self, Bool.not_true, cond_false]
        rw [Same_eq (by omega), Option.bind_some, decide_eq_true rfl, Bool.not_true, cond_false, wrap_succ (by omega)]
        exact .inl ⟨_, rfl, ⟨j + 1, cc, rfl, rfl, by simp only; omega⟩, by simp only; omega⟩
      · rw [decide_eq_false (by omega), cond_false, lives09_eq]
        exact .inr ⟨_, rfl, rfl⟩) (List.replicate (layC d).at_11.toNat 0, List.replicate (layC d).at_11.toNat 0, 0) ⟨0, by omega, rfl, rfl, hlen⟩
  exact k1
end Go.Rx
end

section
/- From a function's contract to the row of its law: how arguments read, and that they read so behind the call. -/
namespace Go.Rx
open Go.ChangeShapes Go.WideShapes Go.ChangeAt Go.RowKit

/-- The kinds of a law's arguments: a slice that is read, a value. -/
inductive AK where
  | row (tg : Nat)
  | el (tg : Nat)

/-- An element's numbers fit their kinds. -/
def elWf (tg : Nat) (e : El tg) : Prop := ∀ k n, Value.int k n ∈ elEnc tg e → (Lit.int k n).wf = true

/-- A value of an element's kind. -/
def elV : (tg : Nat) → El tg → V
  | 0, (n : Int) => vi n
  | 1, (b : Bool) => vb b
  | t, e => .agg ((elEnc t e).map .ext)

def ArgsOf : List AK → Nat → List V → Heap → Prop
  | [], _, ags, H => ags = [] ∧ H = []
  | .row tg :: ks, n, ags, H => ∃ (l : List (El tg)) (ags' : List V) (H' : Heap), ags = .row n :: ags' ∧ H = .row tg l true :: H' ∧ (∀ e ∈ l, elWf tg e) ∧ l.length ≤ maxLen ∧ ArgsOf ks (n + 1) ags' H'
  | .el tg :: ks, n, ags, H => ∃ (e : El tg) (ags' : List V), ags = elV tg e :: ags' ∧ elWf tg e ∧ ArgsOf ks n ags' H

/-- A law: whatever comes in, true. -/
def lawS (ks : List AK) : Spec where
  tr := fun args H K => ArgsOf ks 0 args H ∧ ∀ H', K (vb true) H'

section
variable {P : Program} {elT : ET}

/-- What a program must tell of an element's type. -/
structure ElOK (P : Program) (elT : ET) (tg : Nat) : Prop where
  cells : P.cellsOf (elT tg) = elM tg
  reads : ∀ {H : Type} (enc : TypeId × Value → H) (W : World) (base : Nat) (sp : Nat → Bool) (held : Bool) (fuel : Nat) (cs : List Value) (x : DataW H × List MemPlace),
    DataW.trod enc P W base sp held fuel (elT tg) cs = some x → ∃ e : El tg, cs = elEnc tg e ∧ elWf tg e
  value : ∀ (W : World) (r : Reach) (b : Nat) (v : Value) (e : El tg), Value.okWide P W r b (elT tg) v → v.cells.toList = elEnc tg e → ∀ ρ, (elV tg e).den ρ = some v

variable {H : Type} {enc : TypeId × Value → H} {W : World} {sp : Nat → Bool} {held : Bool}

theorem open_row {tg : Nat} (ok : ElOK P elT tg) {t : TypeId} (ht : P.underlying t = some (.slice (elT tg))) {r : Reach} {b0 : Nat} {v : Value} {d : DataW H} {ps : List MemPlace}
    (hval : Value.okWide P W r b0 t v) (hd : DataW.Trod enc P W 0 sp held t v d ps) :
    ∃ (l : List (El tg)) (F : List Nat), (∀ n ∈ F, n < W.heap.size) ∧ (∀ e ∈ l, elWf tg e) ∧ l.length ≤ maxLen ∧ (∃ a cap, v = .slice a l.length cap) ∧ ∀ ρ, (Blk.row tg l true).holds elT ρ W v F := by
  obtain ⟨a, len, cap, rfl⟩ := okWide_slice ht hval
  obtain ⟨fuel, hf⟩ := hd
  rcases Deep.open_slice ht hf with ⟨h, _⟩ | ⟨ad, len', cap', m, n, D, Pl, h, _, hl, hm, hmm, _, hx⟩
  · simp [Value.cells] at h
    obtain ⟨rfl, rfl, rfl⟩ := h
    exact ⟨[], [], by simp, by simp, Nat.zero_le _, ⟨none, 0, rfl⟩, fun ρ => ⟨none, 0, rfl, Nat.le_refl _, Nat.zero_le _, fun _ => rfl, fun j x hj => by simp [flat] at hj⟩⟩
  · simp [Value.cells] at h
    obtain ⟨rfl, rfl, rfl⟩ := h
    have hlm : len ≤ m := by rw [hmm]; split <;> omega
    have key : ∀ i, i < len → ∃ e : El tg, W.cells? 0 (ad.add (i * elM tg)) (elM tg) = some (elEnc tg e) ∧ elWf tg e := by
      intro i hi
      obtain ⟨cs', h1, h2⟩ := hx i (by omega)
      rw [ok.cells] at h1
      obtain ⟨e, he, hw⟩ := ok.reads enc W 0 sp held n cs' _ h2
      exact ⟨e, by rw [h1, he], hw⟩
    haveI : Inhabited (El tg) := ⟨elD tg⟩
    obtain ⟨E, hE⟩ := Deep.choose_lt key
    refine ⟨(List.range len).map E, if ad.block < W.heap.size then [ad.block] else [], ?_, ?_, by simp; omega, ⟨some ad, cap, by simp⟩, fun ρ => ⟨some ad, cap, by simp, by simpa using hl, hm, (fun h => by cases h), fun j x hj => ?_⟩⟩
    · intro n hn
      split at hn
      · rename_i hb; simp at hn; omega
      · simp at hn
    · intro e he
      obtain ⟨i, hi, rfl⟩ := List.mem_map.1 he
      exact (hE i (by simpa using hi)).2
    · have hjl : j < len * elM tg := by
        have := (List.getElem?_eq_some_iff.1 hj).1
        rw [flat_len] at this; simpa using this
      have hM : 0 < elM tg := by
        rcases Nat.eq_zero_or_pos (elM tg) with h | h
        · rw [h] at hjl; simp at hjl
        · exact h
      have hk : j / elM tg < len := (Nat.div_lt_iff_lt_mul hM).2 hjl
      have hr : j % elM tg < elM tg := Nat.mod_lt _ hM
      have hje : j = j / elM tg * elM tg + j % elM tg := by rw [Nat.mul_comm]; exact (Nat.div_add_mod _ _).symm
      rw [hje, flat_get tg _ _ (by simpa using hk) _ hr] at hj
      have hg : ((List.range len).map E).getD (j / elM tg) (elD tg) = E (j / elM tg) := by simp [List.getD, hk]
      rw [hg] at hj
      obtain ⟨_, _, hc⟩ := World.cells?_some (hE _ hk).1
      have := hc _ hr
      rw [hj, Deep.add_add, ← hje] at this
      refine ⟨ad, rfl, ?_, this⟩
      have hb : (ad.add j).block = ad.block := block_add ad j
      have hlt : ad.block < W.heap.size := by
        rcases Nat.lt_or_ge ad.block W.heap.size with h | h
        · exact h
        · rw [← hb] at h
          simp [World.cell?, Array.getElem?_eq_none h] at this
      simp [hlt]

/-- What each argument's type must be. -/
def AKOK (P : Program) (elT : ET) : AK → TypeId → Prop
  | .row tg, t => P.underlying t = some (.slice (elT tg)) ∧ ElOK P elT tg
  | .el tg, t => t = elT tg ∧ ElOK P elT tg

def AKsOK (P : Program) (elT : ET) : List AK → List TypeId → Prop
  | [], [] => True
  | k :: ks, t :: ts => AKOK P elT k t ∧ AKsOK P elT ks ts
  | _, _ => False

theorem open_args : ∀ (ks : List AK) (ts : List TypeId) (vs : List Value) (ds : List (DataW H)) (ps : List MemPlace) (r : Reach) (b0 : Nat), AKsOK P elT ks ts →
    (∀ (j : Nat) t v, ts[j]? = some t → vs[j]? = some v → Value.okWide P W r b0 t v) → DataW.TrodAll enc P W 0 sp held ts vs ds ps → ∀ (ρ : List Value) (F : Nat → List Nat) (H0 : Heap), Sat elT ρ F H0 W → (∀ b ∈ H0, b.writable = false) →
    ∃ (ags : List V) (H1 : Heap) (ρ' : List Value) (F' : Nat → List Nat), ArgsOf ks ρ.length ags H1 ∧ denL ρ' ags = some vs ∧ Sat elT ρ' F' (H0 ++ H1) W ∧ (∀ b ∈ H0 ++ H1, b.writable = false) ∧ Le ρ ρ'
  | [], ts, vs, ds, ps, r, b0, hk, _, hd, ρ, F, H0, hs, hw => by
    cases ts with
    | cons t ts => exact hk.elim
    | nil =>
      obtain ⟨rfl, rfl, rfl⟩ := trodAll_nil hd
      exact ⟨[], [], ρ, F, ⟨rfl, rfl⟩, rfl, by simpa using hs, by simpa using hw, Le.refl ρ⟩
  | k :: ks, ts, vs, ds, ps, r, b0, hk, hval, hd, ρ, F, H0, hs, hw => by
    cases ts with
    | nil => exact hk.elim
    | cons t ts =>
      obtain ⟨hk1, hk2⟩ := hk
      obtain ⟨v, vs', d, ds', p, q, rfl, rfl, rfl, h1, h2⟩ := trodAll_cons hd
      have hv := hval 0 t v rfl rfl
      have hval' : ∀ (j : Nat) t v, ts[j]? = some t → vs'[j]? = some v → Value.okWide P W r b0 t v := fun j t v a b => hval (j + 1) t v (by simpa using a) (by simpa using b)
      cases k with
      | row tg =>
        obtain ⟨ht, ok⟩ := hk1
        obtain ⟨l, G, hG, hwf, hml, ⟨a, cap, hv2⟩, hh⟩ := open_row ok ht hv h1
        have hlen := hs.len
        have hs1 : Sat elT (ρ ++ [v]) (fset F H0.length G) (H0 ++ [.row tg l true]) W := by
          refine ⟨by simp [hlen], ?_, ?_, ?_⟩
          · intro i b x hb hx
            rcases push_get hb with ⟨hi, hb⟩ | ⟨rfl, rfl⟩
            · have hx' : ρ[i]? = some x := by rw [List.getElem?_append_left (by omega)] at hx; exact hx
              have e : fset F H0.length G i = F i := by unfold fset; rw [if_neg (by omega)]
              rw [e]
              exact Blk.holds_le (by intro i x h; exact List.getElem?_append_left (List.getElem?_eq_some_iff.1 h).1 ▸ h) (fun _ _ => rfl) b (hs.each i b x hb hx')
            · have hx' : x = v := by
                rw [List.getElem?_append_right (by omega)] at hx
                rw [show H0.length - ρ.length = 0 by omega] at hx
                simpa using hx.symm
              subst hx'
              have e : fset F H0.length G H0.length = G := by simp [fset]
              rw [e]
              exact hh _
          · intro i b hb n hn
            rcases push_get hb with ⟨hi, hb⟩ | ⟨rfl, rfl⟩
            · have e : fset F H0.length G i = F i := by unfold fset; rw [if_neg (by omega)]
              rw [e] at hn
              exact hs.lt i b hb n hn
            · have e : fset F H0.length G H0.length = G := by simp [fset]
              rw [e] at hn
              exact hG n hn
          · intro i j bi bj hbi hbj hij hwi
            exfalso
            have hm := List.mem_of_getElem? hbi
            rcases List.mem_append.1 hm with hm | hm
            · rw [hw bi hm] at hwi; cases hwi
            · simp at hm; subst hm; cases hwi
        have hw1 : ∀ b ∈ H0 ++ [Blk.row tg l true], b.writable = false := by
          intro b hb
          rcases List.mem_append.1 hb with hb | hb
          · exact hw b hb
          · simp at hb; subst hb; rfl
        obtain ⟨ags, H1, ρ', F', g1, g2, g3, g4, g5⟩ := open_args ks ts vs' ds' q r b0 hk2 hval' h2 _ _ _ hs1 hw1
        have hρ : ρ'[ρ.length]? = some v := g5 _ _ (by simp)
        refine ⟨.row ρ.length :: ags, .row tg l true :: H1, ρ', F', ⟨l, ags, H1, rfl, rfl, hwf, hml, by simpa using g1⟩, ?_, by simpa using g3, by simpa using g4, ?_⟩
        · have e : (V.row ρ.length).den ρ' = some v := by subst hv2; simp only [V.den, hρ]
          simp only [denL, e, g2]
        · intro i x hx
          exact g5 i x (by rw [List.getElem?_append_left (List.getElem?_eq_some_iff.1 hx).1]; exact hx)
      | el tg =>
        obtain ⟨rfl, ok⟩ := hk1
        obtain ⟨fuel, hf⟩ := h1
        obtain ⟨e, he, hwf⟩ := ok.reads enc W 0 sp held fuel _ _ hf
        obtain ⟨ags, H1, ρ', F', g1, g2, g3, g4, g5⟩ := open_args ks ts vs' ds' q r b0 hk2 hval' h2 ρ F H0 hs hw
        refine ⟨elV tg e :: ags, H1, ρ', F', ⟨e, ags, rfl, hwf, g1⟩, ?_, g3, g4, g5⟩
        simp only [denL, ok.value W r b0 v e hv he ρ', g2]

theorem trodAll_stays (hl : laidOutB P = true) {W' : World} {sp' : Nat → Bool} : ∀ {ts : List TypeId} {vs : List Value} {ds : List (DataW H)} {ps : List MemPlace}, ts.all (fun t => P.readableRec t && decide (t < P.types.size)) = true →
    DataW.TrodAll enc P W 0 (fun _ => true) true ts vs ds ps → (∀ x ∈ ps, W.sameAt W' x) → (∀ x ∈ ps, sp' x.block = true) → DataW.TrodAll enc P W' 0 sp' true ts vs ds ps
  | [], vs, ds, ps, _, h, _, _ => by
    obtain ⟨rfl, rfl, rfl⟩ := trodAll_nil h
    rfl
  | t :: ts, vs, ds, ps, hr, h, h1, h2 => by
    obtain ⟨v, vs', d, ds', p, q, rfl, rfl, rfl, g1, g2⟩ := trodAll_cons h
    simp only [List.all_cons, Bool.and_eq_true, decide_eq_true_eq] at hr
    exact ⟨p, q, WideElems.Trod_stays hl hr.1.1 hr.1.2 g1 (fun x hx => h1 x (by simp [hx])) (fun x hx => h2 x (by simp [hx])),
      trodAll_stays hl hr.2 g2 (fun x hx => h1 x (by simp [hx])) (fun x hx => h2 x (by simp [hx])), rfl⟩

/-- A call that reads alone, and its post. -/
theorem post_law {f : Func} {s : ChangeSpec} {apart fresh handsOn : Bool} {tb : TypeId} (hl : laidOutB P = true) (htb : P.underlying tb = some .bool) (hres : f.resultTypes = #[tb]) (hall : f.params.toList.all (fun t => P.readableRec t && decide (t < P.types.size)) = true)
    (hsv : s.vars = []) (hsp : ∀ ds : List (DataW H), ds.length = f.params.toList.length → s.fn H ds = { results := [.lit (.bool true)], args := ds })
    {W W' : World} {args : Array Value} {ds gs : List (DataW H)} {before : List MemPlace} (hW : DataW.Whole enc P f.params.toList s.vars apart W args.toList ds gs before) (hb : Below W.heap.size W W') :
    s.post enc P f apart fresh handsOn false W args (.bool true) W' := by
  have hlt : ∀ p ∈ before, p.block < W.heap.size := fun p hp => hW.lt p hp
  have hW' := hW
  obtain ⟨p, q, hA, hV, rfl, hfz, hnd⟩ := hW
  rw [hsv] at hV
  obtain ⟨rfl, rfl⟩ := trodVars_none hV
  have hlen : ∀ (ts : List TypeId) (vs : List Value) (ds : List (DataW H)) (ps : List MemPlace), DataW.TrodAll enc P W 0 (fun _ => true) true ts vs ds ps → ds.length = ts.length := by
    intro ts
    induction ts with
    | nil => intro vs ds ps h; obtain ⟨rfl, rfl, rfl⟩ := trodAll_nil h; rfl
    | cons t ts ih =>
      intro vs ds ps h
      obtain ⟨v, vs', d, ds', p, q, rfl, rfl, rfl, g1, g2⟩ := trodAll_cons h
      simp [ih _ _ _ g2]
  have hfn : s.fn H (ds ++ []) = { results := [.lit (.bool true)], args := ds } := by rw [List.append_nil]; exact hsp ds (hlen _ _ _ _ hA)
  refine ⟨ds, [], p ++ [], [], p, [], hW', ?_, ?_, ?_, hb.frame _, fun h => by cases h⟩
  · rw [hfn, hres]
    exact trodAll_mk1 (shut_bool htb true)
  · rw [hfn]
    exact trodAll_stays hl hall hA (fun x hx => hb.same (hlt x (by simpa using hx))) (fun x hx => by simpa using hlt x (by simpa using hx))
  · rw [hfn, hsv]
    rfl

/-- The law's contract is the row's. -/
theorem law_calls {f : Func} {s : ChangeSpec} {apart fresh handsOn : Bool} {tb : TypeId} {g : FuncId} {ks : List AK} (hspec : SpecOK P elT g (lawS ks)) (hk : AKsOK P elT ks f.params.toList)
    (hl : laidOutB P = true) (htb : P.underlying tb = some .bool) (hres : f.resultTypes = #[tb]) (hall : f.params.toList.all (fun t => P.readableRec t && decide (t < P.types.size)) = true)
    (hsv : s.vars = []) (hsp : ∀ ds : List (DataW H), ds.length = f.params.toList.length → s.fn H ds = { results := [.lit (.bool true)], args := ds })
    {W : World} {r : Reach} {base : Nat} {args : Array Value} {ds gs : List (DataW H)} {before : List MemPlace} (hval : ∀ (j : Nat) t v, f.params[j]? = some t → args[j]? = some v → Value.okWide P W r base t v)
    (hW : DataW.Whole enc P f.params.toList s.vars apart W args.toList ds gs before) :
    Calls P g args W fun e W' => ∃ v, e = .returned v ∧ s.post enc P f apart fresh handsOn false W args v W' := by
  have hW' := hW
  obtain ⟨p, q, hA, _⟩ := hW
  have h0 : Sat elT [] (fun _ => []) [] W := ⟨rfl, fun i b x hb => by simp at hb, fun i b hb => by simp at hb, fun i j bi bj hb => by simp at hb⟩
  obtain ⟨ags, H1, ρ, F, g1, g2, g3, g4, _⟩ := open_args ks f.params.toList args.toList ds p r base hk (fun j t v a b => hval j t v (by simpa using a) (by simpa using b)) hA [] (fun _ => []) [] h0 (by simp)
  have hc := hspec.2 ags H1 (fun v _ => v = vb true) ⟨g1, fun _ => rfl⟩ ρ F W args.toList g2 (by simpa using g3)
  rw [Array.toArray_toList] at hc
  refine hc.mono fun e W' h => ?_
  obtain ⟨v, x, ρ', F', H', rfl, rfl, hr, _, _, hfr⟩ := h
  have hx : x = .bool true := den_ext hr
  subst hx
  have hnw : ∀ (i : Nat) (b : Blk), H1[i]? = some b → b.writable = true → False := fun i b hb hw => by
    have := g4 b (by simpa using List.mem_of_getElem? hb)
    rw [this] at hw; cases hw
  have hb : Below W.heap.size W W' := ⟨hfr.os, hfr.tape, hfr.output, hfr.size, fun n hn => hfr.block n hn (fun i b hb hw => (hnw i b hb hw).elim)⟩
  exact ⟨_, rfl, post_law hl htb hres hall hsv hsp hW' hb⟩

/-! The cells of a type without pointers: numbers and truth values. -/
end

def flatFs (P : Program) (rec : TypeId → Option (List Bool)) : List Field → Nat → Option (List Bool)
  | [], _ => some []
  | f :: fs, o => match rec f.type with
    | none => none
    | some a => bif Nat.beq f.offset o && Nat.beq (P.cellsOf f.type) a.length then match flatFs P rec fs (o + a.length) with
      | some b => some (a ++ b)
      | none => none
      else none

/-- 'true': an int's cell; 'false': a bool's. -/
def flatK (P : Program) : Nat → TypeId → Option (List Bool)
  | 0, _ => none
  | n + 1, t => match P.underlying t with
    | some .bool => some [false]
    | some (.int .i64) => some [true]
    | some (.struct fs) => match flatFs P (flatK P n) fs.toList 0 with
      | some ks => bif Nat.beq (P.cellsOf t) ks.length then some ks else none
      | none => none
    | _ => none

def goodCell (b : Bool) (v : Option Value) : Prop := match b with
  | true => ∃ n, v = some (.int .i64 n) ∧ (Lit.int .i64 n).wf = true
  | false => ∃ c, v = some (.bool c)

section
variable {P : Program} {elT : ET} {H : Type} {enc : TypeId × Value → H} {W : World} {sp : Nat → Bool} {held : Bool}

theorem flatFs_good {rec : TypeId → Option (List Bool)} {base : Nat} {cs : List Value} (hrec : ∀ t ks fuel cs (x : DataW H × List MemPlace), rec t = some ks → DataW.trod enc P W base sp held fuel t cs = some x → cs.length = ks.length ∧ ∀ (i : Nat) (b : Bool), ks[i]? = some b → goodCell b cs[i]?) {n : Nat} :
    ∀ (fl : List Field) (o : Nat) (ks : List Bool), (∀ f ∈ fl, ∃ y, DataW.trod enc P W base sp held n f.type ((cs.drop f.offset).take (P.cellsOf f.type)) = some y) → flatFs P rec fl o = some ks → ∀ (i : Nat) (b : Bool), ks[i]? = some b → goodCell b cs[o + i]?
  | [], o, ks, _, h, i, b, hb => by simp only [flatFs, Option.some.injEq] at h; subst h; simp at hb
  | f :: fl, o, ks, hall, h, i, b, hb => by
    simp only [flatFs] at h
    split at h
    · cases h
    · rename_i a ha
      cases hc : (Nat.beq f.offset o && Nat.beq (P.cellsOf f.type) a.length) with
      | false => rw [hc] at h; cases h
      | true =>
        rw [hc] at h
        simp only [cond_true] at h
        simp only [Bool.and_eq_true] at hc
        have e1 := Nat.eq_of_beq_eq_true hc.1
        have e2 := Nat.eq_of_beq_eq_true hc.2
        split at h
        · rename_i b' hb'
          injection h with h
          subst h
          rcases Nat.lt_or_ge i a.length with hi | hi
          · rw [List.getElem?_append_left hi] at hb
            obtain ⟨y, hy⟩ := hall f (by simp)
            have hg := (hrec f.type a n _ y ha hy).2 i b hb
            rw [e1, e2, List.getElem?_take, if_pos hi, List.getElem?_drop] at hg
            exact hg
          · rw [List.getElem?_append_right hi] at hb
            have := flatFs_good hrec fl (o + a.length) b' (fun f hf => hall f (by simp [hf])) hb' (i - a.length) b hb
            rw [show o + a.length + (i - a.length) = o + i by omega] at this
            exact this
        · cases h

theorem flatK_good {base : Nat} : ∀ (n : Nat) (t : TypeId) (ks : List Bool) (fuel : Nat) (cs : List Value) (x : DataW H × List MemPlace), flatK P n t = some ks → DataW.trod enc P W base sp held fuel t cs = some x →
    cs.length = ks.length ∧ ∀ (i : Nat) (b : Bool), ks[i]? = some b → goodCell b cs[i]?
  | 0, t, ks, fuel, cs, x, h, _ => by cases h
  | n + 1, t, ks, fuel, cs, x, h, hx => by
    simp only [flatK] at h
    split at h
    · rename_i ht
      injection h with h; subst h
      obtain ⟨b, rfl, _⟩ := DataW.trod_bool ht hx
      refine ⟨rfl, fun i b' hb => ?_⟩
      cases i with
      | zero => simp at hb; subst hb; exact ⟨b, rfl⟩
      | succ i => simp at hb
    · rename_i ht
      injection h with h; subst h
      obtain ⟨m, rfl, _, hw⟩ := DataW.trod_int ht hx
      refine ⟨rfl, fun i b' hb => ?_⟩
      cases i with
      | zero => simp at hb; subst hb; exact ⟨m, rfl, hw⟩
      | succ i => simp at hb
    · rename_i fs ht
      split at h
      · rename_i ks' hks
        cases hc : Nat.beq (P.cellsOf t) ks'.length with
        | false => rw [hc] at h; cases h
        | true =>
          rw [hc] at h
          injection h with h; subst h
          obtain ⟨xs, m, _, _, hlen, hxs, hall⟩ := DataW.trod_struct ht hx
          refine ⟨by rw [hlen, Nat.eq_of_beq_eq_true hc], fun i b hb => ?_⟩
          have := flatFs_good (enc := enc) (W := W) (sp := sp) (held := held) (base := base) (cs := cs) (n := m) (fun t ks fuel cs x a b => flatK_good n t ks fuel cs x a b) fs.toList 0 ks' (fun f hf => by
            obtain ⟨k, hk⟩ := List.getElem?_of_mem hf
            rw [Array.getElem?_toList] at hk
            have h1 := hall k f hk
            have hi : k < fs.size := (Array.getElem?_eq_some_iff.1 hk).1
            rw [List.getElem?_eq_getElem (by omega)] at h1
            exact ⟨_, h1⟩) hks i b hb
          rwa [Nat.zero_add] at this
      · cases h
    · cases h

theorem struct_value {tg : Nat} {e : El tg} {fs : Array Field} {W : World} {r : Reach} {b : Nat} {v : Value} (ht : P.underlying (elT tg) = some (.struct fs)) (hv : Value.okWide P W r b (elT tg) v) (hcs : v.cells.toList = elEnc tg e) (ρ : List Value) :
    (V.agg ((elEnc tg e).map .ext)).den ρ = some v := by
  obtain ⟨cs, rfl, _⟩ := okWide_struct ht hv
  simp only [Value.cells] at hcs
  simp only [V.den, denL_ext]
  rw [← hcs]

end
end Go.Rx
end

section
/- Structs of ints, as a row reads them. -/
namespace Go.Rx
open Go.ChangeShapes Go.WideShapes

theorem elOK_ints {P : Program} {elT : ET} {fs : Array Field} {m : Nat} (ht : P.underlying (elT (m + 4)) = some (.struct fs)) (hc : P.cellsOf (elT (m + 4)) = m % 32 + 1)
    (hf : flatK P 6 (elT (m + 4)) = some (List.replicate (m % 32 + 1) true)) : ElOK P elT (m + 4) := by
  refine ⟨hc, fun enc W base sp held fuel cs x h => ?_, fun W r b v e hv hcs ρ => struct_value ht hv hcs ρ⟩
  obtain ⟨hlen, hg⟩ := flatK_good 6 (elT (m + 4)) _ fuel cs x hf h
  rw [List.length_replicate] at hlen
  have hI : ∀ i, i < m % 32 + 1 → ∃ n, cs[i]? = some (.int .i64 n) ∧ (Lit.int .i64 n).wf = true := fun i hi => hg i true (by rw [List.getElem?_replicate, if_pos hi])
  obtain ⟨N, hN⟩ := Deep.choose_lt hI
  have hget : ∀ i, i < m % 32 + 1 → ((List.range (m % 32 + 1)).map N).getD i 0 = N i := fun i hi => by simp [List.getD, hi]
  have hcs : cs = elEnc (m + 4) ((List.range (m % 32 + 1)).map N : List Int) := by
    show cs = (List.range (m % 32 + 1)).map fun i => i64 (((List.range (m % 32 + 1)).map N).getD i 0)
    apply List.ext_getElem?
    intro i
    rcases Nat.lt_or_ge i (m % 32 + 1) with hi | hi
    · rw [(hN i hi).1, List.getElem?_map, List.getElem?_range hi, Option.map_some, hget i hi]
    · rw [List.getElem?_eq_none (by omega), List.getElem?_eq_none (by simpa using hi)]
  refine ⟨_, hcs, fun k n hm => ?_⟩
  have hm' : Value.int k n ∈ cs := by rw [hcs]; exact hm
  obtain ⟨i, hi⟩ := List.getElem?_of_mem hm'
  have hil : i < m % 32 + 1 := by rw [← hlen]; exact (List.getElem?_eq_some_iff.1 hi).1
  obtain ⟨h1, h2⟩ := hN i hil
  rw [h1] at hi
  injection hi with hi
  injection hi with e1 e2
  subst e1; subst e2
  exact h2
end Go.Rx
end

section
/- The law 'ExtentPlays', out of its plain form. -/
namespace Go.Rx
open Go.Proofs

theorem law_law09_ExtentPlays : SpecOK Try.prog elTT 10 (lawS [.el 14, .row 7]) := spec_mono (fun args H K h => by
  obtain ⟨ha, hk⟩ := h
  obtain ⟨e0, _, rfl, hw0, l1, _, _, rfl, rfl, hw1, hn1, rfl, rfl⟩ := ha
  show So (m_law09_ExtentPlays (⟨List.getD (e0 : List Int) 0 0, List.getD (e0 : List Int) 1 0, List.getD (e0 : List Int) 2 0, List.getD (e0 : List Int) 3 0, List.getD (e0 : List Int) 4 0, List.getD (e0 : List Int) 5 0, List.getD (e0 : List Int) 6 0, List.getD (e0 : List Int) 7 0, List.getD (e0 : List Int) 8 0, List.getD (e0 : List Int) 9 0, List.getD (e0 : List Int) 10 0⟩ : T_api_Config) l1) _
  exact So_eq (ExtentPlays_main _ _) (hk _)) ok_law09_ExtentPlays
end Go.Rx
end
