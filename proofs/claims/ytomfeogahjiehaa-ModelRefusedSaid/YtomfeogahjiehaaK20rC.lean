/- What the row's text of this claim stands on, part 3: the symbolic executor, contracts of the program's functions, plain facts. No condition. -/
import Derived.WalkKit
import Derived.ProofKit
import Derived.OpenShut
import Derived.Carry
import Derived.Deep.Slices
import Derived.JoinedOf
import Derived.Test.YtomfeogahjiehaaK20rB
section
namespace Go.Rx
open Go.Proofs
set_option maxRecDepth 100000
set_option maxHeartbeats 4000000
def y4y (m_ : (List (List Int)) → (List Pr) → Option ((List Pr))) (args : List V) (H : Heap) (K : V → Heap → Prop) : Prop :=
  aC args fun a0 r => aC r fun a1 r => aN r <| aPtr 0 a0 <| aFn 52 a1 fun fc1 => aC fc1 fun fp1_0 r => aPtr 1 fp1_0 <| aN r <| aC H fun b0 r => aC r fun b1 r => aC r fun b2 r => aC r fun b3 r => aN r <| bRCells b0 fun c0 => aC c0 fun d0_0 r => aRow 2 d0_0 <| aN r <| bCells b1 fun U c1 => aC c1 fun d1_0 r => aRow 3 d1_0 <| aN r <| bRow 70 true b2 fun (yd : List (List Int)) => bRow 2 false b3 fun (l2 : List Pr) => So (m_ yd l2) fun x => K (.tup []) [.rcells [.row 2], .cells U [.row 4], .row 70 yd true, .dead, .row 2 (x) false]
def y3k (m_ : (List (List Int)) → (List Pr) → Option ((List Pr))) : Spec := ⟨y4y m_, (⟨true, fun i => Nat.beq i 3, fun i => Nat.beq i 0⟩ : RO)⟩
def y56 (m_ : yj → (List (List Int)) → Option (yj)) (args : List V) (H : Heap) (K : V → Heap → Prop) : Prop :=
  aC args fun a0 r => aC r fun a1 r => aN r <| aPtr 0 a0 <| aFn 79 a1 fun fc1 => aC fc1 fun fp1_0 r => aPtr 1 fp1_0 <| aN r <| aC H fun b0 r => aC r fun b1 r => aC r fun b2 r => aN r <| bRCells b0 fun c0 => aC c0 fun d0_0 r => aRow 2 d0_0 <| aN r <| bCells b1 fun U c1 => y2l c1 fun all => bRow 70 true b2 fun (yd : List (List Int)) => So (m_ all yd) fun x => K (.tup []) [.rcells [.row 2], .cells U (y0y (x)), .row 70 yd true]
def y39 (m_ : yj → (List (List Int)) → Option (yj)) : Spec := ⟨y56 m_, (⟨true, fun i => false, fun i => Nat.beq i 0⟩ : RO)⟩
def wk_sorted_Each_model_block_1 : List WK := [⟨false, 1, [], 0, 2, false⟩]
def pre_sorted_Each_model_block_1 : List WK := [⟨false, 1, [], 0, 2, false⟩]
noncomputable def y2b (yn : (List (List Int)) → Option (Int)) (y0h : Y3) : Cfg := { cfgB with
  sigs := (sigC 55 (y2m yn) (sigC 52 (y3j y0h) sigN)),
  keep := fun r => match r with | 1 => some [(0, none), (1, none), (6, none), (7, none)] | _ => none,
  plan := fun r => match r with | 3 => some (List.range 19, 2) | _ => none }
noncomputable def y1z (yn : (List (List Int)) → Option (Int)) (y0m : Y11) : Cfg := { cfgB with
  sigs := (sigC 55 (y2m yn) (sigC 79 (y5m y0m) sigN)),
  keep := fun r => match r with | 1 => some [(0, none), (1, none), (6, none), (7, none)] | _ => none,
  plan := fun r => match r with | 3 => some (List.range 19, 2) | _ => none }
theorem yas (yn : (List (List Int)) → Option (Int)) (y0h : Y3) (yd : List (List Int)) (l2 : List Pr) (U : TypeId) (t6 : Int) (t7 : Int) (w : List Go.Rx.Pr) (K : V → Heap → Prop) (J1 : Env → Heap → Prop) : (ex (y2b yn y0h) (⟨30, 4⟩ : Cx) (at_ (bodyOf Try.f51) [1, 0, 0]) (mkEnv [(0, .ptr 0 0), (1, .fn 52 [.ptr 1 0]), (6, vi (t6)), (7, vi (t7))]) [.rcells [.row 2], .cells U [.row 4], .row 70 (yd : List (List Int)) Bool.true, .dead, .row 2 (w : List (Go.Rx.Pr)) Bool.false] (roundK (y2b yn y0h) (⟨30, 4⟩ : Cx) (at_ (bodyOf Try.f51) [1, 0, 0]) (contK (y2b yn y0h) (⟨30, 4⟩ : Cx) (bodyOf Try.f51) [1, 0] (retW (y2b yn y0h) wk_sorted_Each_model_block_1 Try.f51 4 K)) J1)) = (
    br (Decidable.decide (t7 < t6)) (Req (inR t7 (List.length yd)) (Req (inR (offs t7 0) (List.length yd)) (Req (inR t7 (List.length yd)) (Req (inR (offs t7 0) (List.length yd)) (So (y0h (List.getD (List.getD yd (Int.toNat (offs t7 (0 : Nat))) (List.replicate (3 : Nat) (0 : Int))) (0 : Nat) (0 : Int)) (yj.mk (List.getD (List.getD yd (Int.toNat (offs t7 (0 : Nat))) (List.replicate (3 : Nat) (0 : Int))) (1 : Nat) (0 : Int)) (List.getD (List.getD yd (Int.toNat (offs t7 (0 : Nat))) (List.replicate (3 : Nat) (0 : Int))) (2 : Nat) (0 : Int))) w) (fun (y0 : Bool × List Pr) => (br (!Prod.fst y0) (K (.tup []) [.rcells [.row 2], .cells U [.row 4], .row 70 (yd : List (List Int)) Bool.true, .dead, .row 2 (Prod.snd y0 : List (Pr)) Bool.false]) (J1 (mkEnv [(0, .ptr 0 0), (1, .fn 52 [.ptr 1 0]), (6, vi (t6)), (7, vi (IntKind.wrap IntKind.i64 (t7 + 1)))]) [.rcells [.row 2], .cells U [.row 4], .row 70 (yd : List (List Int)) Bool.true, .dead, .row 2 (Prod.snd y0 : List (Pr)) Bool.false])))))))) (K (.tup []) [.rcells [.row 2], .cells U [.row 4], .row 70 (yd : List (List Int)) Bool.true, .dead, .row 2 (w : List (Pr)) Bool.false])) := by
  kernel_rfl
theorem yao (yn : (List (List Int)) → Option (Int)) (y0h : Y3) (yd : List (List Int)) (l2 : List Pr) (U : TypeId) (K : V → Heap → Prop) : (exFW (y2b yn y0h) pre_sorted_Each_model_block_1 wk_sorted_Each_model_block_1 Try.f51 [.ptr 0 0, .fn 52 [.ptr 1 0]] [.rcells [.row 2], .cells U [.row 3], .row 70 yd true, .row 2 l2 false] K) = (
    So (yn yd) (fun (y0 : Int) => (Loop (y2b yn y0h) (⟨30, 4⟩ : Cx) (at_ (bodyOf Try.f51) [1, 0, 0]) (mkEnv [(0, .ptr 0 0), (1, .fn 52 [.ptr 1 0]), (6, vi (y0)), (7, vi (0))]) [.rcells [.row 2], .cells U [.row 4], .row 70 (yd : List (List Int)) Bool.true, .dead, .row 2 (l2 : List (Pr)) Bool.false] (contK (y2b yn y0h) (⟨30, 4⟩ : Cx) (bodyOf Try.f51) [1, 0] (retW (y2b yn y0h) wk_sorted_Each_model_block_1 Try.f51 4 K))))) := by
  kernel_rfl
theorem y8y (yn : (List (List Int)) → Option (Int)) (y0m : Y11) (all : yj) (yd : List (List Int)) (U : TypeId) (t6 : Int) (t7 : Int) (all2 : yj) (K : V → Heap → Prop) (J1 : Env → Heap → Prop) : (ex (y1z yn y0m) (⟨30, 3⟩ : Cx) (at_ (bodyOf Try.f51) [1, 0, 0]) (mkEnv [(0, .ptr 0 0), (1, .fn 79 [.ptr 1 0]), (6, vi (t6)), (7, vi (t7))]) [.rcells [.row 2], .cells U (y0y all2), .row 70 (yd : List (List Int)) Bool.true] (roundK (y1z yn y0m) (⟨30, 3⟩ : Cx) (at_ (bodyOf Try.f51) [1, 0, 0]) (contK (y1z yn y0m) (⟨30, 3⟩ : Cx) (bodyOf Try.f51) [1, 0] (retK (y1z yn y0m) Try.f51 3 K)) J1)) = (
    br (Decidable.decide (t7 < t6)) (Req (inR t7 (List.length yd)) (Req (inR (offs t7 0) (List.length yd)) (Req (inR t7 (List.length yd)) (Req (inR (offs t7 0) (List.length yd)) (So (y0m (List.getD (List.getD yd (Int.toNat (offs t7 (0 : Nat))) (List.replicate (3 : Nat) (0 : Int))) (0 : Nat) (0 : Int)) (yj.mk (List.getD (List.getD yd (Int.toNat (offs t7 (0 : Nat))) (List.replicate (3 : Nat) (0 : Int))) (1 : Nat) (0 : Int)) (List.getD (List.getD yd (Int.toNat (offs t7 (0 : Nat))) (List.replicate (3 : Nat) (0 : Int))) (2 : Nat) (0 : Int))) all2) (fun (y0 : Bool × yj) => (br (!Prod.fst y0) (K (.tup []) [.rcells [.row 2], .cells U (y0y (Prod.snd y0)), .row 70 (yd : List (List Int)) Bool.true]) (J1 (mkEnv [(0, .ptr 0 0), (1, .fn 79 [.ptr 1 0]), (6, vi (t6)), (7, vi (IntKind.wrap IntKind.i64 (t7 + 1)))]) [.rcells [.row 2], .cells U (y0y (Prod.snd y0)), .row 70 (yd : List (List Int)) Bool.true])))))))) (K (.tup []) [.rcells [.row 2], .cells U (y0y all2), .row 70 (yd : List (List Int)) Bool.true])) := by
  kernel_rfl
theorem y9n (yn : (List (List Int)) → Option (Int)) (y0m : Y11) (all : yj) (yd : List (List Int)) (U : TypeId) (K : V → Heap → Prop) : (exF (y1z yn y0m) Try.f51 [.ptr 0 0, .fn 79 [.ptr 1 0]] [.rcells [.row 2], .cells U (y0y all), .row 70 yd true] K) = (
    So (yn yd) (fun (y0 : Int) => (Loop (y1z yn y0m) (⟨30, 3⟩ : Cx) (at_ (bodyOf Try.f51) [1, 0, 0]) (mkEnv [(0, .ptr 0 0), (1, .fn 79 [.ptr 1 0]), (6, vi (y0)), (7, vi (0))]) [.rcells [.row 2], .cells U (y0y all), .row 70 (yd : List (List Int)) Bool.true] (contK (y1z yn y0m) (⟨30, 3⟩ : Cx) (bodyOf Try.f51) [1, 0] (retK (y1z yn y0m) Try.f51 3 K))))) := by
  kernel_rfl
noncomputable def y2n (yd : List (List Int)) (t6 : Int) (t7 : Int) (w : List Go.Rx.Pr) : Option ((Int × (List Go.Rx.Pr)) ⊕ ((List Pr))) :=
  (bif (Decidable.decide (t7 < t6)) then (bif (inR t7 (List.length yd)) then (bif (inR (offs t7 0) (List.length yd)) then (bif (inR t7 (List.length yd)) then (bif (inR (offs t7 0) (List.length yd)) then ((y0h (List.getD (List.getD yd (Int.toNat (offs t7 (0 : Nat))) (List.replicate (3 : Nat) (0 : Int))) (0 : Nat) (0 : Int)) (yj.mk (List.getD (List.getD yd (Int.toNat (offs t7 (0 : Nat))) (List.replicate (3 : Nat) (0 : Int))) (1 : Nat) (0 : Int)) (List.getD (List.getD yd (Int.toNat (offs t7 (0 : Nat))) (List.replicate (3 : Nat) (0 : Int))) (2 : Nat) (0 : Int))) w).bind fun y0 => (bif (!Prod.fst y0) then some (.inr ((Prod.snd y0))) else some (.inl ((IntKind.wrap IntKind.i64 (t7 + 1)), (Prod.snd y0))))) else none) else none) else none) else none) else some (.inr ((w))))
noncomputable def y45 (yd : List (List Int)) (t6 : Int) (s : Int × (List Go.Rx.Pr)) : Option ((List Pr)) :=
  loopO (fun s => y2n yd t6 s.1 s.2) s
noncomputable def y0u (yd : List (List Int)) (l2 : List Pr) : Option ((List Pr)) :=
  ((yn yd).bind fun y0 => (y45 yd (y0) ((0), (l2))))
noncomputable def y2r (yd : List (List Int)) (t6 : Int) (t7 : Int) (all2 : yj) : Option ((Int × yj) ⊕ (yj)) :=
  (bif (Decidable.decide (t7 < t6)) then (bif (inR t7 (List.length yd)) then (bif (inR (offs t7 0) (List.length yd)) then (bif (inR t7 (List.length yd)) then (bif (inR (offs t7 0) (List.length yd)) then ((y0m (List.getD (List.getD yd (Int.toNat (offs t7 (0 : Nat))) (List.replicate (3 : Nat) (0 : Int))) (0 : Nat) (0 : Int)) (yj.mk (List.getD (List.getD yd (Int.toNat (offs t7 (0 : Nat))) (List.replicate (3 : Nat) (0 : Int))) (1 : Nat) (0 : Int)) (List.getD (List.getD yd (Int.toNat (offs t7 (0 : Nat))) (List.replicate (3 : Nat) (0 : Int))) (2 : Nat) (0 : Int))) all2).bind fun y0 => (bif (!Prod.fst y0) then some (.inr (((Prod.snd y0)))) else some (.inl ((IntKind.wrap IntKind.i64 (t7 + 1)), (Prod.snd y0))))) else none) else none) else none) else none) else some (.inr ((all2))))
noncomputable def y48 (yd : List (List Int)) (t6 : Int) (s : Int × yj) : Option (yj) :=
  loopO (fun s => y2r yd t6 s.1 s.2) s
noncomputable def y0s (all : yj) (yd : List (List Int)) : Option (yj) :=
  ((yn yd).bind fun y0 => (y48 yd (y0) ((0), (all))))
attribute [local irreducible] Loop ex exF contK roundK retK at_ bodyOf mkEnv exFW retW
theorem lpok_sorted_Each_model_block_1_L1 (yd : List (List Int)) (l2 : List Pr) (U : TypeId) (t6 : Int) (t7 : Int) (w : List Go.Rx.Pr) (K : V → Heap → Prop) : So (y45 (yd) (t6) (t7, w)) (fun (x : (List Pr)) => K (.tup []) [.rcells [.row 2], .cells U [.row 4], .row 70 yd true, .dead, .row 2 (x) false]) → Loop (y2b yn y0h) (⟨30, 4⟩ : Cx) (at_ (bodyOf Try.f51) [1, 0, 0]) (mkEnv [(0, .ptr 0 0), (1, .fn 52 [.ptr 1 0]), (6, vi (t6)), (7, vi (t7))]) [.rcells [.row 2], .cells U [.row 4], .row 70 (yd : List (List Int)) Bool.true, .dead, .row 2 (w : List (Pr)) Bool.false] (contK (y2b yn y0h) (⟨30, 4⟩ : Cx) (bodyOf Try.f51) [1, 0] (retW (y2b yn y0h) wk_sorted_Each_model_block_1 Try.f51 4 K)) := by
  refine loopK_So (fun (s_ : Int × (List Pr)) => (mkEnv [(0, .ptr 0 0), (1, .fn 52 [.ptr 1 0]), (6, vi (t6)), (7, vi ((s_.1)))])) (fun (s_ : Int × (List Pr)) => [.rcells [.row 2], .cells U [.row 4], .row 70 (yd : List (List Int)) Bool.true, .dead, .row 2 ((s_.2) : List (Pr)) Bool.false]) (fun (x : (List Pr)) => K (.tup []) [.rcells [.row 2], .cells U [.row 4], .row 70 yd true, .dead, .row 2 (x) false]) ?_ (t7, w)
  intro s_ J1 h
  clear t7
  clear w
  obtain ⟨t7, w⟩ := s_
  refine Eq.mpr (yas yn y0h yd l2 U t6 t7 w K J1) ?_
  have h : So (y2n (yd) (t6) t7 w) _ := h
  unfold y2n at h
  revert h
  exact br_So (req_So (req_So (req_So (req_So (bind_So fun y0 => br_So (fun h => h) (fun h => h)))))) (fun h => h)
theorem y4j : SpecOK Try.prog elTT 51 (y3k y0u) := by
  refine spec_of_exFW (cfg := (y2b yn y0h)) (yr rfl rfl rfl) (yk y2y (yk y42 yu)) (pre := pre_sorted_Each_model_block_1) (wk := wk_sorted_Each_model_block_1) (fn := Try.f51) (by kernel_rfl) (by kernel_rfl) (by kernel_rfl) ?_
  intro args H K h
  change y4y y0u args H K at h
  unfold y4y at h
  repeat first | (obtain ⟨_, h⟩ := h) | replace h := Des.el h
  subst_vars
  refine Eq.mpr (yao yn y0h _ _ _ K) ?_
  unfold y0u at h
  revert h
  exact bind_So fun y0 => lpok_sorted_Each_model_block_1_L1 _ (by first | assumption | exact default) _ _ _ _ K
theorem lpok_sorted_Each_model_block_2_L1 (all : yj) (yd : List (List Int)) (U : TypeId) (t6 : Int) (t7 : Int) (all2 : yj) (K : V → Heap → Prop) : So (y48 (yd) (t6) (t7, all2)) (fun (x : yj) => K (.tup []) [.rcells [.row 2], .cells U (y0y (x)), .row 70 yd true]) → Loop (y1z yn y0m) (⟨30, 3⟩ : Cx) (at_ (bodyOf Try.f51) [1, 0, 0]) (mkEnv [(0, .ptr 0 0), (1, .fn 79 [.ptr 1 0]), (6, vi (t6)), (7, vi (t7))]) [.rcells [.row 2], .cells U (y0y all2), .row 70 (yd : List (List Int)) Bool.true] (contK (y1z yn y0m) (⟨30, 3⟩ : Cx) (bodyOf Try.f51) [1, 0] (retK (y1z yn y0m) Try.f51 3 K)) := by
  refine loopK_So (fun (s_ : Int × yj) => (mkEnv [(0, .ptr 0 0), (1, .fn 79 [.ptr 1 0]), (6, vi (t6)), (7, vi ((s_.1)))])) (fun (s_ : Int × yj) => [.rcells [.row 2], .cells U (y0y (s_.2)), .row 70 (yd : List (List Int)) Bool.true]) (fun (x : yj) => K (.tup []) [.rcells [.row 2], .cells U (y0y (x)), .row 70 yd true]) ?_ (t7, all2)
  intro s_ J1 h
  clear t7
  clear all2
  obtain ⟨t7, all2⟩ := s_
  refine Eq.mpr (y8y yn y0m all yd U t6 t7 all2 K J1) ?_
  have h : So (y2r (yd) (t6) t7 all2) _ := h
  unfold y2r at h
  revert h
  exact br_So (req_So (req_So (req_So (req_So (bind_So fun y0 => br_So (fun h => h) (fun h => h)))))) (fun h => h)
theorem y62 : SpecOK Try.prog elTT 51 (y39 y0s) := by
  refine spec_of_exF (cfg := (y1z yn y0m)) (yr rfl rfl rfl) (yk y2y (yk y7r yu)) (fn := Try.f51) (by kernel_rfl) (by kernel_rfl) (by kernel_rfl) ?_
  intro args H K h
  change y56 y0s args H K at h
  unfold y56 at h
  repeat first | (obtain ⟨_, h⟩ := h) | replace h := Des.el h
  subst_vars
  refine Eq.mpr (y9n yn y0m _ _ _ K) ?_
  unfold y0s at h
  revert h
  exact bind_So fun y0 => lpok_sorted_Each_model_block_2_L1 (by first | assumption | exact default) _ _ _ _ _ K
end Go.Rx
end

section
namespace Go.Rx
open Go.Proofs
set_option maxRecDepth 100000
set_option maxHeartbeats 4000000
theorem yac {cs : List V} {k : yb → List V → Prop} (h : y0w (List.take 23 cs) fun x => aRest (List.drop 23 cs) fun r => k x r) : ∃ x r, cs = yh x ++ r ∧ k x r := by
  obtain ⟨x, e, h⟩ := y6i h
  exact ⟨x, _, by rw [← e, List.take_append_drop], h⟩
instance (cs : List V) (k : yb → List V → Prop) : Des (y0w (List.take 23 cs) fun x => aRest (List.drop 23 cs) fun r => k x r) (∃ x r, cs = yh x ++ r ∧ k x r) := ⟨yac⟩
abbrev Y10 := yc → Option (Bool × Int × yb × (List Int) × (List (List Int)))
def y4g (m_ : Y10) (args : List V) (H : Heap) (K : V → Heap → Prop) : Prop :=
  aC args fun a0 r => aN r <| aAgg a0 fun c0 => y2i c0 fun c => aN H <| So (m_ c) fun x => br (x.1) (K (.tup [.ptr 0 0, vi (x.2.1)]) [.cells 0 (yh (x.2.2.1) ++ [.ptr 1 0, .row 2]), .cells 0 [.row 3], .row 0 (x.2.2.2.1) false, .row 70 (x.2.2.2.2) false]) (K (.tup [.ext (.pointer none), vi (x.2.1)]) [])
def y8r (m_ : Y10) : Spec := ⟨y4g m_, (true : Bool)⟩
abbrev Y6 := Int → Int → Option (Int)
def y5c (m_ : Y6) (args : List V) (H : Heap) (K : V → Heap → Prop) : Prop :=
  aC args fun a0 r => aC r fun a1 r => aN r <| aInt a0 fun size => aInt a1 fun align => aN H <| So (m_ size align) fun x => K (vi (x)) []
def y4x (m_ : Y6) : Spec := ⟨y5c m_, (true : Bool)⟩
abbrev Y5 := T_api_Reply → Option (Bool)
def y59 (m_ : Y5) (args : List V) (H : Heap) (K : V → Heap → Prop) : Prop :=
  aC args fun a0 r => aN r <| aAgg a0 fun c0 => y1r c0 fun rv => aN H <| So (m_ rv) fun x => K (vb (x)) []
def y31 (m_ : Y5) : Spec := ⟨y59 m_, (true : Bool)⟩
def y5n (m_ : Int → yb → (List Int) → (List (List Int)) → Option (Int)) (args : List V) (H : Heap) (K : V → Heap → Prop) : Prop :=
  aC args fun a0 r => aC r fun a1 r => aN r <| aPtr 0 a0 <| aInt a1 fun a => aC H fun b0 r => aC r fun b1 r => aC r fun b2 r => aC r fun b3 r => aN r <| bRCells b0 fun c0 => y0w (List.take 23 c0) fun m_lv => aRest (List.drop 23 c0) fun r => aC r fun d0_23 r => aPtr 1 d0_23 <| aC r fun d0_24 r => aRow 2 d0_24 <| aN r <| bRCells b1 fun c1 => aC c1 fun d1_0 r => aRow 3 d1_0 <| aN r <| bRow 0 true b2 fun (yg : List Int) => bRow 70 true b3 fun (yf : List (List Int)) => So (m_ a m_lv yg yf) fun x => K (vi (x)) [.rcells (yh m_lv ++ [.ptr 1 0, .row 2]), .rcells [.row 3], .row 0 yg true, .row 70 yf true]
def y3e (m_ : Int → yb → (List Int) → (List (List Int)) → Option (Int)) : Spec := ⟨y5n m_, (⟨true, fun i => false, fun i => Nat.beq i 0 || Nat.beq i 1⟩ : RO)⟩
def y5e (m_ : Y2) (args : List V) (H : Heap) (K : V → Heap → Prop) : Prop :=
  aC args fun a0 r => aC r fun a1 r => aN r <| aNilP a0 <| aInt a1 fun a => aN H <| So (m_ a) fun x => K (vi (x)) []
def y3d (m_ : Y2) : Spec := ⟨y5e m_, (true : Bool)⟩
def y5p (m_ : yb → (List Int) → (List (List Int)) → Option ((List Pr))) (args : List V) (H : Heap) (K : V → Heap → Prop) : Prop :=
  aC args fun a0 r => aN r <| aPtr 0 a0 <| aC H fun b0 r => aC r fun b1 r => aC r fun b2 r => aC r fun b3 r => aN r <| bRCells b0 fun c0 => y0w (List.take 23 c0) fun m_lv => aRest (List.drop 23 c0) fun r => aC r fun d0_23 r => aPtr 1 d0_23 <| aC r fun d0_24 r => aRow 2 d0_24 <| aN r <| bRCells b1 fun c1 => aC c1 fun d1_0 r => aRow 3 d1_0 <| aN r <| bRow 0 true b2 fun (yg : List Int) => bRow 70 true b3 fun (yf : List (List Int)) => So (m_ m_lv yg yf) fun x => K (.row 4) [.rcells (yh m_lv ++ [.ptr 1 0, .row 2]), .rcells [.row 3], .row 0 yg true, .row 70 yf true, .row 2 (x) false]
def y8c (m_ : yb → (List Int) → (List (List Int)) → Option ((List Pr))) : Spec := ⟨y5p m_, (⟨true, fun i => false, fun i => Nat.beq i 0 || Nat.beq i 1⟩ : RO)⟩
def y5j (m_ : Option ((List Pr))) (args : List V) (H : Heap) (K : V → Heap → Prop) : Prop :=
  aC args fun a0 r => aN r <| aNilP a0 <| aN H <| So (m_ ) fun x => K (.row 0) [.row 2 (x) false]
def y7f (m_ : Option ((List Pr))) : Spec := ⟨y5j m_, (true : Bool)⟩
def y5g (m_ : Int → yb → (List Int) → (List (List Int)) → Option (Int × Int × Bool)) (args : List V) (H : Heap) (K : V → Heap → Prop) : Prop :=
  aC args fun a0 r => aC r fun a1 r => aN r <| aPtr 0 a0 <| aInt a1 fun a => aC H fun b0 r => aC r fun b1 r => aC r fun b2 r => aC r fun b3 r => aN r <| bRCells b0 fun c0 => y0w (List.take 23 c0) fun m_lv => aRest (List.drop 23 c0) fun r => aC r fun d0_23 r => aPtr 1 d0_23 <| aC r fun d0_24 r => aRow 2 d0_24 <| aN r <| bRCells b1 fun c1 => aC c1 fun d1_0 r => aRow 3 d1_0 <| aN r <| bRow 0 true b2 fun (yg : List Int) => bRow 70 true b3 fun (yf : List (List Int)) => So (m_ a m_lv yg yf) fun x => K (.tup [vi (x.1), vi (x.2.1), vb (x.2.2)]) [.rcells (yh m_lv ++ [.ptr 1 0, .row 2]), .rcells [.row 3], .row 0 yg true, .row 70 yf true]
def y36 (m_ : Int → yb → (List Int) → (List (List Int)) → Option (Int × Int × Bool)) : Spec := ⟨y5g m_, (⟨true, fun i => false, fun i => Nat.beq i 0 || Nat.beq i 1⟩ : RO)⟩
abbrev Y7 := Int → Option (Int × Int × Bool)
def y5u (m_ : Y7) (args : List V) (H : Heap) (K : V → Heap → Prop) : Prop :=
  aC args fun a0 r => aC r fun a1 r => aN r <| aNilP a0 <| aInt a1 fun a => aN H <| So (m_ a) fun x => K (.tup [vi (x.1), vi (x.2.1), vb (x.2.2)]) []
def y3l (m_ : Y7) : Spec := ⟨y5u m_, (true : Bool)⟩
def y5o (m_ : yb → (List Int) → (List (List Int)) → Option (yb × (List Int) × (List (List Int)))) (args : List V) (H : Heap) (K : V → Heap → Prop) : Prop :=
  aC args fun a0 r => aN r <| aPtr 0 a0 <| aC H fun b0 r => aC r fun b1 r => aC r fun b2 r => aC r fun b3 r => aN r <| bRCells b0 fun c0 => y0w (List.take 23 c0) fun m_lv => aRest (List.drop 23 c0) fun r => aC r fun d0_23 r => aPtr 1 d0_23 <| aC r fun d0_24 r => aRow 2 d0_24 <| aN r <| bRCells b1 fun c1 => aC c1 fun d1_0 r => aRow 3 d1_0 <| aN r <| bRow 0 true b2 fun (yg : List Int) => bRow 70 true b3 fun (yf : List (List Int)) => So (m_ m_lv yg yf) fun x => K (.ptr 4 0) [.rcells (yh m_lv ++ [.ptr 1 0, .row 2]), .rcells [.row 3], .row 0 yg true, .row 70 yf true, .cells 0 (yh (x.1) ++ [.ptr 5 0, .row 6]), .cells 0 [.row 7], .row 0 (x.2.1) false, .row 70 (x.2.2) false]
def y7l (m_ : yb → (List Int) → (List (List Int)) → Option (yb × (List Int) × (List (List Int)))) : Spec := ⟨y5o m_, (⟨true, fun i => false, fun i => Nat.beq i 0 || Nat.beq i 1⟩ : RO)⟩
def y4f (m_ : Option (Unit)) (args : List V) (H : Heap) (K : V → Heap → Prop) : Prop :=
  aC args fun a0 r => aN r <| aNilP a0 <| aN H <| So (m_ ) fun x => K (.ext (.pointer none)) []
def y8u (m_ : Option (Unit)) : Spec := ⟨y4f m_, (true : Bool)⟩
def y4o (m_ : ye → T_api_Reply → yb → (List Int) → (List (List Int)) → Option (Bool)) (args : List V) (H : Heap) (K : V → Heap → Prop) : Prop :=
  aC args fun a0 r => aC r fun a1 r => aC r fun a2 r => aN r <| aPtr 0 a0 <| aAgg a1 fun c1 => y1w c1 fun c => aAgg a2 fun c2 => y1r c2 fun rv => aC H fun b0 r => aC r fun b1 r => aC r fun b2 r => aC r fun b3 r => aN r <| bRCells b0 fun c0 => y0w (List.take 23 c0) fun m_lv => aRest (List.drop 23 c0) fun r => aC r fun d0_23 r => aPtr 1 d0_23 <| aC r fun d0_24 r => aRow 2 d0_24 <| aN r <| bRCells b1 fun c1 => aC c1 fun d1_0 r => aRow 3 d1_0 <| aN r <| bRow 0 true b2 fun (yg : List Int) => bRow 70 true b3 fun (yf : List (List Int)) => So (m_ c rv m_lv yg yf) fun x => K (vb (x)) [.rcells (yh m_lv ++ [.ptr 1 0, .row 2]), .rcells [.row 3], .row 0 yg true, .row 70 yf true]
def y7o (m_ : ye → T_api_Reply → yb → (List Int) → (List (List Int)) → Option (Bool)) : Spec := ⟨y4o m_, (⟨true, fun i => false, fun i => Nat.beq i 0 || Nat.beq i 1⟩ : RO)⟩
def y60 (m_ : ye → T_api_Reply → yb → (List Int) → (List (List Int)) → Option (Bool × (List (List Int)) × (List Int))) (args : List V) (H : Heap) (K : V → Heap → Prop) : Prop :=
  aC args fun a0 r => aC r fun a1 r => aC r fun a2 r => aN r <| aPtr 0 a0 <| aAgg a1 fun c1 => y1w c1 fun c => aAgg a2 fun c2 => y1r c2 fun rv => aC H fun b0 r => aC r fun b1 r => aC r fun b2 r => aC r fun b3 r => aN r <| bRCells b0 fun c0 => y0w (List.take 23 c0) fun m_lv => aRest (List.drop 23 c0) fun r => aC r fun d0_23 r => aPtr 1 d0_23 <| aC r fun d0_24 r => aRow 2 d0_24 <| aN r <| bCells b1 fun U c1 => aC c1 fun d1_0 r => aRow 3 d1_0 <| aN r <| bRow 0 false b2 fun (yg : List Int) => bRow 70 false b3 fun (yf : List (List Int)) => So (m_ c rv m_lv yg yf) fun x => K (vb (x.1)) [.rcells (yh m_lv ++ [.ptr 1 0, .row 2]), .cells U [.row 4], .row 0 (x.2.2) false, .dead, .row 70 (x.2.1) false]
def y3g (m_ : ye → T_api_Reply → yb → (List Int) → (List (List Int)) → Option (Bool × (List (List Int)) × (List Int))) : Spec := ⟨y60 m_, (⟨true, fun i => Nat.beq i 2 || Nat.beq i 3, fun i => Nat.beq i 0⟩ : RO)⟩
def y5q (m_ : ye → T_api_Reply → yb → (List Int) → (List (List Int)) → Option (Bool × (List (List Int)) × (List Int))) (args : List V) (H : Heap) (K : V → Heap → Prop) : Prop :=
  aC args fun a0 r => aC r fun a1 r => aC r fun a2 r => aN r <| aPtr 0 a0 <| aAgg a1 fun c1 => y1w c1 fun c => aAgg a2 fun c2 => y1r c2 fun rv => aC H fun b0 r => aC r fun b1 r => aC r fun b2 r => aC r fun b3 r => aN r <| bRCells b0 fun c0 => y0w (List.take 23 c0) fun m_lv => aRest (List.drop 23 c0) fun r => aC r fun d0_23 r => aPtr 1 d0_23 <| aC r fun d0_24 r => aRow 2 d0_24 <| aN r <| bCells b1 fun U c1 => aC c1 fun d1_0 r => aRow 3 d1_0 <| aN r <| bRow 0 false b2 fun (yg : List Int) => bRow 70 false b3 fun (yf : List (List Int)) => So (m_ c rv m_lv yg yf) fun x => K (vb (x.1)) [.rcells (yh m_lv ++ [.ptr 1 0, .row 2]), .cells U [.row 4], .row 0 (x.2.2) false, .dead, .row 70 (x.2.1) false]
def y5w (m_ : ye → T_api_Reply → yb → (List Int) → (List (List Int)) → Option (Bool × (List (List Int)) × (List Int))) : Spec := ⟨y5q m_, (⟨true, fun i => Nat.beq i 2 || Nat.beq i 3, fun i => Nat.beq i 0⟩ : RO)⟩
def y47 (m_ : ye → T_api_Reply → yb → (List Int) → (List (List Int)) → Option (Bool × (List (List Int)))) (args : List V) (H : Heap) (K : V → Heap → Prop) : Prop :=
  aC args fun a0 r => aC r fun a1 r => aC r fun a2 r => aN r <| aPtr 0 a0 <| aAgg a1 fun c1 => y1w c1 fun c => aAgg a2 fun c2 => y1r c2 fun rv => aC H fun b0 r => aC r fun b1 r => aC r fun b2 r => aC r fun b3 r => aN r <| bRCells b0 fun c0 => y0w (List.take 23 c0) fun m_lv => aRest (List.drop 23 c0) fun r => aC r fun d0_23 r => aPtr 1 d0_23 <| aC r fun d0_24 r => aRow 2 d0_24 <| aN r <| bCells b1 fun U c1 => aC c1 fun d1_0 r => aRow 3 d1_0 <| aN r <| bRow 0 true b2 fun (yg : List Int) => bRow 70 false b3 fun (yf : List (List Int)) => So (m_ c rv m_lv yg yf) fun x => K (vb (x.1)) [.rcells (yh m_lv ++ [.ptr 1 0, .row 2]), .cells U [.row 4], .row 0 yg true, .dead, .row 70 (x.2) false]
def y5l (m_ : ye → T_api_Reply → yb → (List Int) → (List (List Int)) → Option (Bool × (List (List Int)))) : Spec := ⟨y47 m_, (⟨true, fun i => Nat.beq i 3, fun i => Nat.beq i 0⟩ : RO)⟩
def y4d (m_ : ye → T_api_Reply → yb → (List Int) → (List (List Int)) → Option (Bool)) (args : List V) (H : Heap) (K : V → Heap → Prop) : Prop :=
  aC args fun a0 r => aC r fun a1 r => aC r fun a2 r => aN r <| aPtr 0 a0 <| aAgg a1 fun c1 => y1w c1 fun c => aAgg a2 fun c2 => y1r c2 fun rv => aC H fun b0 r => aC r fun b1 r => aC r fun b2 r => aC r fun b3 r => aN r <| bRCells b0 fun c0 => y0w (List.take 23 c0) fun m_lv => aRest (List.drop 23 c0) fun r => aC r fun d0_23 r => aPtr 1 d0_23 <| aC r fun d0_24 r => aRow 2 d0_24 <| aN r <| bRCells b1 fun c1 => aC c1 fun d1_0 r => aRow 3 d1_0 <| aN r <| bRow 0 true b2 fun (yg : List Int) => bRow 70 true b3 fun (yf : List (List Int)) => So (m_ c rv m_lv yg yf) fun x => K (vb (x)) [.rcells (yh m_lv ++ [.ptr 1 0, .row 2]), .rcells [.row 3], .row 0 yg true, .row 70 yf true]
def y4c (m_ : ye → T_api_Reply → yb → (List Int) → (List (List Int)) → Option (Bool)) : Spec := ⟨y4d m_, (⟨true, fun i => false, fun i => Nat.beq i 0 || Nat.beq i 1⟩ : RO)⟩
def y50 (m_ : T_api_Reply → yb → (List Int) → (List (List Int)) → Option (Bool)) (args : List V) (H : Heap) (K : V → Heap → Prop) : Prop :=
  aC args fun a0 r => aC r fun a1 r => aN r <| aPtr 0 a0 <| aAgg a1 fun c1 => y1r c1 fun rv => aC H fun b0 r => aC r fun b1 r => aC r fun b2 r => aC r fun b3 r => aN r <| bRCells b0 fun c0 => y0w (List.take 23 c0) fun m_lv => aRest (List.drop 23 c0) fun r => aC r fun d0_23 r => aPtr 1 d0_23 <| aC r fun d0_24 r => aRow 2 d0_24 <| aN r <| bRCells b1 fun c1 => aC c1 fun d1_0 r => aRow 3 d1_0 <| aN r <| bRow 0 true b2 fun (yg : List Int) => bRow 70 true b3 fun (yf : List (List Int)) => So (m_ rv m_lv yg yf) fun x => K (vb (x)) [.rcells (yh m_lv ++ [.ptr 1 0, .row 2]), .rcells [.row 3], .row 0 yg true, .row 70 yf true]
def y4u (m_ : T_api_Reply → yb → (List Int) → (List (List Int)) → Option (Bool)) : Spec := ⟨y50 m_, (⟨true, fun i => false, fun i => Nat.beq i 0 || Nat.beq i 1⟩ : RO)⟩
def y46 (m_ : ye → T_api_Reply → yb → (List Int) → (List (List Int)) → Option (Bool × (List Int))) (args : List V) (H : Heap) (K : V → Heap → Prop) : Prop :=
  aC args fun a0 r => aC r fun a1 r => aC r fun a2 r => aN r <| aPtr 0 a0 <| aAgg a1 fun c1 => y1w c1 fun c => aAgg a2 fun c2 => y1r c2 fun rv => aC H fun b0 r => aC r fun b1 r => aC r fun b2 r => aC r fun b3 r => aN r <| bRCells b0 fun c0 => y0w (List.take 23 c0) fun m_lv => aRest (List.drop 23 c0) fun r => aC r fun d0_23 r => aPtr 1 d0_23 <| aC r fun d0_24 r => aRow 2 d0_24 <| aN r <| bRCells b1 fun c1 => aC c1 fun d1_0 r => aRow 3 d1_0 <| aN r <| bRow 0 false b2 fun (yg : List Int) => bRow 70 true b3 fun (yf : List (List Int)) => So (m_ c rv m_lv yg yf) fun x => K (vb (x.1)) [.rcells (yh m_lv ++ [.ptr 1 0, .row 2]), .rcells [.row 3], .row 0 (x.2) false, .row 70 yf true]
def y67 (m_ : ye → T_api_Reply → yb → (List Int) → (List (List Int)) → Option (Bool × (List Int))) : Spec := ⟨y46 m_, (⟨true, fun i => Nat.beq i 2, fun i => Nat.beq i 0 || Nat.beq i 1⟩ : RO)⟩
def y4p (m_ : ye → T_api_Reply → yb → (List Int) → (List (List Int)) → Option (Bool × (List (List Int)) × (List Int))) (args : List V) (H : Heap) (K : V → Heap → Prop) : Prop :=
  aC args fun a0 r => aC r fun a1 r => aC r fun a2 r => aN r <| aPtr 0 a0 <| aAgg a1 fun c1 => y1w c1 fun c => aAgg a2 fun c2 => y1r c2 fun rv => aC H fun b0 r => aC r fun b1 r => aC r fun b2 r => aC r fun b3 r => aN r <| bRCells b0 fun c0 => y0w (List.take 23 c0) fun m_lv => aRest (List.drop 23 c0) fun r => aC r fun d0_23 r => aPtr 1 d0_23 <| aC r fun d0_24 r => aRow 2 d0_24 <| aN r <| bCells b1 fun U c1 => aC c1 fun d1_0 r => aRow 3 d1_0 <| aN r <| bRow 0 false b2 fun (yg : List Int) => bRow 70 false b3 fun (yf : List (List Int)) => So (m_ c rv m_lv yg yf) fun x => K (vb (x.1)) [.rcells (yh m_lv ++ [.ptr 1 0, .row 2]), .cells U [.row 4], .row 0 (x.2.2) false, .dead, .row 70 (x.2.1) false]
def y38 (m_ : ye → T_api_Reply → yb → (List Int) → (List (List Int)) → Option (Bool × (List (List Int)) × (List Int))) : Spec := ⟨y4p m_, (⟨true, fun i => Nat.beq i 2 || Nat.beq i 3, fun i => Nat.beq i 0⟩ : RO)⟩
abbrev Y4 := ye → T_api_Reply → Option (Bool)
def y3u (m_ : Y4) (args : List V) (H : Heap) (K : V → Heap → Prop) : Prop :=
  aC args fun a0 r => aC r fun a1 r => aC r fun a2 r => aN r <| aNilP a0 <| aAgg a1 fun c1 => y1w c1 fun c => aAgg a2 fun c2 => y1r c2 fun rv => aN H <| So (m_ c rv) fun x => K (vb (x)) []
def y34 (m_ : Y4) : Spec := ⟨y3u m_, (true : Bool)⟩
def wk_model_New : List WK := [⟨true, 0, [], 0, 0, true⟩, ⟨true, 0, [], 24, 0, false⟩, ⟨true, 0, [23], 0, 0, true⟩, ⟨true, 0, [23], 0, 70, false⟩]
noncomputable def y6h (y09 : Y12) (yq : Y0) (yi : Y0) : Cfg := { cfgB with
  sigs := (sigC 31 (y3c y09) (sigC 33 (inlS cfgB Try.f33) (sigC 24 (y3f yq) (sigC 23 (y1h yi) sigN)))),
  plan := fun r => match r with | 4 => some ([0, 2, 4, 1, 3, 5, 6, 7, 8, 9, 10, 11], 0) | _ => none }
noncomputable def y8s (y1u : Y18) : Cfg := { cfgB with
  sigs := (sigC 100 (y8g y1u) sigN) }
noncomputable def y89  : Cfg := { cfgB with
  sigs := sigN }
noncomputable def y6q (yi : Y0) (yl : Y1) : Cfg := { cfgB with
  sigs := (sigC 54 (inlSR (⟨true, fun _ => false, fun i => Nat.beq i 0 || Nat.beq i 1⟩ : RO)  ({ cfgB with sigs := (sigC 86 (y1y yl) (sigC 23 (y1h yi) sigN)), plan := fun r => match r with | 4 => some (List.range 13, 0) | _ => none } : Cfg) Try.f54) sigN) }
noncomputable def y7q (yi : Y0) (yl : Y1) : Cfg := { cfgB with
  sigs := (sigC 54 (inlSR (⟨true, fun _ => false, fun i => Nat.beq i 0 || Nat.beq i 1⟩ : RO)  ({ cfgB with sigs := (sigC 86 (y1y yl) (sigC 23 (y1h yi) sigN)), plan := fun r => match r with | 4 => some (List.range 13, 0) | _ => none } : Cfg) Try.f54) sigN) }
noncomputable def y84 (y0h : Y3) (y0u : (List (List Int)) → (List Pr) → Option ((List Pr))) (y0s : yj → (List (List Int)) → Option (yj)) : Cfg := { cfgB with
  sigs := (sigC 52 (y3j y0h) (sigC 51 (altP 1 79 (y39 y0s) (y3k y0u)) sigN)),
  nilrow := true }
noncomputable def y6n (y0h : Y3) (y0u : (List (List Int)) → (List Pr) → Option ((List Pr))) (y0s : yj → (List (List Int)) → Option (yj)) : Cfg := { cfgB with
  sigs := (sigC 52 (y3j y0h) (sigC 51 (altP 1 79 (y39 y0s) (y3k y0u)) sigN)),
  nilrow := true }
noncomputable def y2d (yn : (List (List Int)) → Option (Int)) (y0l : Int → (List (List Int)) → Option (Int × yj × Bool)) : Cfg := { cfgB with
  sigs := (sigC 55 (y2m yn) (sigC 56 (y61 y0l) sigN)),
  keep := fun r => match r with | 4 => some [(0, none), (1, none), (7, none)] | _ => none,
  plan := fun r => match r with | 9 => some (List.range 6, 0) | _ => none }
noncomputable def y6o (yn : (List (List Int)) → Option (Int)) (y0l : Int → (List (List Int)) → Option (Int × yj × Bool)) : Cfg := { cfgB with
  sigs := (sigC 55 (y2m yn) (sigC 56 (y61 y0l) sigN)),
  keep := fun r => match r with | 4 => some [(0, none), (1, none), (7, none)] | _ => none,
  plan := fun r => match r with | 9 => some (List.range 6, 0) | _ => none }
def wk_model_Model_Copy : List WK := [⟨true, 0, [], 0, 0, true⟩, ⟨true, 0, [], 24, 0, false⟩, ⟨true, 0, [23], 0, 0, true⟩, ⟨true, 0, [23], 0, 70, false⟩]
noncomputable def y8f (y1f : (List (List Int)) → Option ((List (List Int)))) : Cfg := { cfgB with
  sigs := (sigC 58 (y49 y1f) sigN),
  planT := fun r => match r with | 3 => some ((chainT [0, 1, 2, 3, 4, 5, 6, 7, 10, 11, 12, 13] (.alt (chainT [8, 9, 14, 15, 16, 17] .fin) (chainT [9, 8, 14, 15, 16, 17] .fin))), 2) | _ => none }
noncomputable def y8n (y1f : (List (List Int)) → Option ((List (List Int)))) : Cfg := { cfgB with
  sigs := (sigC 58 (y49 y1f) sigN),
  planT := fun r => match r with | 3 => some ((chainT [0, 1, 2, 3, 4, 5, 6, 7, 10, 11, 12, 13] (.alt (chainT [8, 9, 14, 15, 16, 17] .fin) (chainT [9, 8, 14, 15, 16, 17] .fin))), 2) | _ => none }
noncomputable def y1m (y00 : Y6) (yi : Y0) (yl : Y1) (yq : Y0) (y0e : Y7) (y06 : Int → yb → (List Int) → (List (List Int)) → Option (Int × Int × Bool)) : Cfg := { cfgB with
  sigs := (sigC 77 (y4x y00) (sigC 54 (inlSR (⟨true, fun _ => false, fun i => Nat.beq i 0 || Nat.beq i 1⟩ : RO)  ({ cfgB with sigs := (sigC 86 (y1y yl) (sigC 23 (y1h yi) sigN)), plan := fun r => match r with | 4 => some (List.range 13, 0) | _ => none } : Cfg) Try.f54) (sigC 24 (y3f yq) (sigC 21 (altNil (y36 y06) (y3l y0e)) sigN)))),
  keep := fun r => match r with | 8 => some [(0, none), (5, none), (58, none), (59, none)] | _ => none,
  plan := fun r => match r with | 5 => some ([0, 1, 2, 3, 4, 5, 6, 7, 8, 9, 10, 11, 12, 13, 14, 15, 16, 17, 18, 19, 20, 21, 22, 23, 24, 25, 26, 27, 28, 29, 31, 32, 30, 33, 34, 35], 0) | _ => none }
def wk_model_Model_fresh : List WK := [⟨false, 1, [], 0, 70, false⟩]
noncomputable def y2f (y0t : ye → T_api_Reply → yb → (List Int) → (List (List Int)) → Option (Bool)) (y02 : Int → yj → (List (List Int)) → Option (Bool × (List (List Int)))) (yi : Y0) (yl : Y1) : Cfg := { cfgB with
  sigs := (sigC 73 (y7o y0t) (sigC 74 (y51 y02) (sigC 54 (inlSR (⟨true, fun _ => false, fun i => Nat.beq i 0 || Nat.beq i 1⟩ : RO)  ({ cfgB with sigs := (sigC 86 (y1y yl) (sigC 23 (y1h yi) sigN)), plan := fun r => match r with | 4 => some (List.range 13, 0) | _ => none } : Cfg) Try.f54) sigN))),
  keep := fun r => match r with | 8 => some [(0, none), (5, none), (34, none), (35, none)] | _ => none,
  plan := fun r => match r with | 5 => some (List.range 12, 2) | _ => none }
def wk_model_Model_again : List WK := [⟨false, 1, [], 0, 70, false⟩]
noncomputable def y1k (y05 : Int → (List (List Int)) → Option (yj × Bool)) (y01 : Y5) (y00 : Y6) (y02 : Int → yj → (List (List Int)) → Option (Bool × (List (List Int)))) (y04 : ye → T_api_Reply → yb → (List Int) → (List (List Int)) → Option (Bool × (List (List Int)) × (List Int))) (yi : Y0) (yl : Y1) (yy : Y2) (yp : Int → yb → (List Int) → (List (List Int)) → Option (Int)) (y0a : Int → (List (List Int)) → Option (Bool × (List (List Int)))) : Cfg := { cfgB with
  sigs := (sigC 75 (y37 y05) (sigC 76 (y31 y01) (sigC 77 (y4x y00) (sigC 74 (y51 y02) (sigC 36 (y3g y04) (sigC 54 (inlSR (⟨true, fun _ => false, fun i => Nat.beq i 0 || Nat.beq i 1⟩ : RO)  ({ cfgB with sigs := (sigC 86 (y1y yl) (sigC 23 (y1h yi) sigN)), plan := fun r => match r with | 4 => some (List.range 13, 0) | _ => none } : Cfg) Try.f54) (sigC 20 (altNil (y3e yp) (y3d yy)) (sigC 78 (y5r y0a) sigN)))))))),
  keep := fun r => match r with | 14 => some [(0, none), (4, none), (5, none), (68, none), (69, none)] | _ => none,
  plan := fun r => match r with | 4 => some ([0, 1, 3, 4, 2, 5, 6], 0) | 7 => some (List.range 12, 2) | 16 => some ([0, 1, 2, 3, 4, 6, 7, 8, 9, 10, 5, 11, 12, 13], 30786325577728) | 18 => some (List.range 7, 2) | _ => none,
  planT := fun r => match r with | 1 => some ((chainT [0, 1, 2, 3, 4, 5] (.alt (chainT [6, 7, 8, 9, 10, 11, 12] .fin) (chainT [10, 6, 7, 8, 9, 11, 12] .fin))), 272) | _ => none,
  flag := fun d => Nat.beq d 7 }
def wk_model_Model_free : List WK := [⟨false, 1, [], 0, 70, false⟩]
noncomputable def y7j (y05 : Int → (List (List Int)) → Option (yj × Bool)) (y01 : Y5) (y0a : Int → (List (List Int)) → Option (Bool × (List (List Int)))) : Cfg := { cfgB with
  sigs := (sigC 75 (y37 y05) (sigC 76 (y31 y01) (sigC 78 (y5r y0a) sigN))),
  plan := fun r => match r with | 6 => some (List.range 7, 2) | _ => none,
  planT := fun r => match r with | 1 => some ((chainT [0, 1, 2, 3, 4, 5] (.alt (chainT [6, 7, 8, 9, 10, 11, 12] .fin) (chainT [10, 6, 7, 8, 9, 11, 12] .fin))), 272) | _ => none,
  flag := fun d => Nat.beq d 7 }
noncomputable def y8b (y05 : Int → (List (List Int)) → Option (yj × Bool)) (y01 : Y5) : Cfg := { cfgB with
  sigs := (sigC 75 (y37 y05) (sigC 76 (y31 y01) sigN)),
  planT := fun r => match r with | 1 => some ((chainT [0, 1, 2, 3, 4, 5] (.alt (chainT [6, 7, 8, 9, 10, 11, 12] .fin) (chainT [10, 6, 7, 8, 9, 11, 12] .fin))), 272) | _ => none,
  flag := fun d => Nat.beq d 7 }
noncomputable def y87 (y0m : Y11) (y0u : (List (List Int)) → (List Pr) → Option ((List Pr))) (y0s : yj → (List (List Int)) → Option (yj)) (y1j : ya → Option (Bool)) (y0r : Y17) (yn : (List (List Int)) → Option (Int)) : Cfg := { cfgB with
  sigs := (sigC 79 (y5m y0m) (sigC 51 (altP 1 79 (y39 y0s) (y3k y0u)) (sigC 80 (y8h y1j) (sigC 40 (y3o y0r) (sigC 55 (y2m yn) sigN))))),
  plan := fun r => match r with | 4 => some (List.range 20, 0) | 6 => some (List.range 23, 0) | _ => none }
noncomputable def y6z (y0e : Y7) (y06 : Int → yb → (List Int) → (List (List Int)) → Option (Int × Int × Bool)) (y01 : Y5) (yy : Y2) (yp : Int → yb → (List Int) → (List (List Int)) → Option (Int)) (yi : Y0) (yl : Y1) : Cfg := { cfgB with
  sigs := (sigC 21 (altNil (y36 y06) (y3l y0e)) (sigC 76 (y31 y01) (sigC 20 (altNil (y3e yp) (y3d yy)) (sigC 54 (inlSR (⟨true, fun _ => false, fun i => Nat.beq i 0 || Nat.beq i 1⟩ : RO)  ({ cfgB with sigs := (sigC 86 (y1y yl) (sigC 23 (y1h yi) sigN)), plan := fun r => match r with | 4 => some (List.range 13, 0) | _ => none } : Cfg) Try.f54) sigN)))),
  plan := fun r => match r with | 5 => some (List.range 8, 0) | 8 => some ([0, 1, 2, 4, 5, 3, 6, 7], 17592186044416) | _ => none }
def wk_model_Model_Step : List WK := [⟨false, 1, [], 0, 70, false⟩]
noncomputable def y6u (y1b : Y16) (y04 : ye → T_api_Reply → yb → (List Int) → (List (List Int)) → Option (Bool × (List (List Int)) × (List Int))) (y1d : ye → T_api_Reply → yb → (List Int) → (List (List Int)) → Option (Bool × (List (List Int)) × (List Int))) (y1a : ye → T_api_Reply → yb → (List Int) → (List (List Int)) → Option (Bool × (List (List Int)))) (y1e : ye → T_api_Reply → yb → (List Int) → (List (List Int)) → Option (Bool)) (y0r : Y17) (y0z : T_api_Reply → yb → (List Int) → (List (List Int)) → Option (Bool)) (y1c : ye → T_api_Reply → yb → (List Int) → (List (List Int)) → Option (Bool × (List Int))) : Cfg := { cfgB with
  sigs := (sigC 35 (y52 y1b) (sigC 36 (y3g y04) (sigC 37 (y5w y1d) (sigC 38 (y5l y1a) (sigC 39 (y4c y1e) (sigC 40 (y3o y0r) (sigC 41 (y4u y0z) (sigC 42 (y67 y1c) sigN)))))))),
  plan := fun r => match r with | 25 => some (List.range 22, 0) | _ => none }
noncomputable def y7h (y1b : Y16) (y04 : ye → T_api_Reply → yb → (List Int) → (List (List Int)) → Option (Bool × (List (List Int)) × (List Int))) (y1d : ye → T_api_Reply → yb → (List Int) → (List (List Int)) → Option (Bool × (List (List Int)) × (List Int))) (y1a : ye → T_api_Reply → yb → (List Int) → (List (List Int)) → Option (Bool × (List (List Int)))) (y1e : ye → T_api_Reply → yb → (List Int) → (List (List Int)) → Option (Bool)) (y0r : Y17) (y0z : T_api_Reply → yb → (List Int) → (List (List Int)) → Option (Bool)) (y1c : ye → T_api_Reply → yb → (List Int) → (List (List Int)) → Option (Bool × (List Int))) : Cfg := { cfgB with
  sigs := (sigC 35 (y52 y1b) (sigC 36 (y3g y04) (sigC 37 (y5w y1d) (sigC 38 (y5l y1a) (sigC 39 (y4c y1e) (sigC 40 (y3o y0r) (sigC 41 (y4u y0z) (sigC 42 (y67 y1c) sigN)))))))),
  plan := fun r => match r with | 25 => some (List.range 22, 0) | _ => none }
theorem yab (y09 : Y12) (yq : Y0) (yi : Y0) (c : yc) (K : V → Heap → Prop) : (exFW (y6h y09 yq yi) [] wk_model_New Try.f10 [.agg (y1o c)] [] K) = (
    So (y09 c) (fun (y0 : yb × Int) => (br (Prod.snd y0 != 0) (K (.tup [.ext (Go.Value.pointer Option.none), vi (Prod.snd y0)]) []) (So (yq (Prod.fst y0)) (fun (y1 : Int) => (So (yi (Prod.fst y0)) (fun (y2 : Int) => (Req (Decidable.decide (0 ≤ IntKind.wrap IntKind.i64 (y1 - y2) ∧ IntKind.wrap IntKind.i64 (y1 - y2) ≤ IntKind.wrap IntKind.i64 (y1 - y2) ∧ IntKind.wrap IntKind.i64 (y1 - y2) ≤ 1048576)) (K (.tup [.ptr 0 0, vi (0)]) [.cells 0 (yh (Prod.fst y0) ++ [.ptr 1 0, .row 2]), .cells 0 [.row 3], .row 0 (List.replicate (Int.toNat (IntKind.wrap IntKind.i64 (y1 - y2))) (0 : Int) : List (Int)) Bool.false, .row 70 ([] : List (List Int)) Bool.false]))))))))) := by
  kernel_rfl
theorem yb7 (y1u : Y18) (size : Int) (align : Int) (K : V → Heap → Prop) : (exF (y8s y1u) Try.f77 [vi size, vi align] [] K) = (
    br (Decidable.decide (size > 1048576)) (K (vi (0)) []) (So (y1u size align) (fun (y0 : Int × Int) => (K (vi (Prod.fst y0)) [])))) := by
  kernel_rfl
theorem yb2 (rv : T_api_Reply) (K : V → Heap → Prop) : (exF y89 Try.f76 [.agg (y0o rv)] [] K) = (
    K (vb (T_api_Reply.Err rv == 7 && (T_api_Reply.Addr rv == 0 && (T_api_Reply.Size rv == 0 && (T_api_Reply.Value rv == 0 && (ya.Blocks (T_api_Reply.Stats rv) == 0 && (ya.Asked (T_api_Reply.Stats rv) == 0 && (ya.Words (T_api_Reply.Stats rv) == 0 && (ya.Kept (T_api_Reply.Stats rv) == 0 && (ya.Open (T_api_Reply.Stats rv) == 0 && (ya.Mapped (T_api_Reply.Stats rv) == 0 && (ya.Used (T_api_Reply.Stats rv) == 0 && Bool.true)))))) && Bool.true)))))) []) := by
  kernel_rfl
theorem y8w (yi : Y0) (yl : Y1) (a : Int) (m_lv : yb) (yg : List Int) (yf : List (List Int)) (K : V → Heap → Prop) : (exF (y6q yi yl) Try.f20 [.ptr 0 0, vi a] [.rcells (yh m_lv ++ [.ptr 1 0, .row 2]), .rcells [.row 3], .row 0 yg true, .row 70 yf true] K) = (
    So (yl m_lv a) (fun (y0 : Int × Int × Bool) => (br (!Prod.snd (Prod.snd y0)) (K (vi (0)) [.rcells (yh m_lv ++ [.ptr 1 0, .row 2]), .rcells [.row 3], .row 0 (yg : List (Int)) Bool.true, .row 70 (yf : List (List Int)) Bool.true]) (So (yi m_lv) (fun (y1 : Int) => (Req (inR (IntKind.wrap IntKind.i64 (a - y1)) (List.length yg)) (Req (inR (offs (IntKind.wrap IntKind.i64 (a - y1)) 0) (List.length yg)) (K (vi (List.getD yg (Int.toNat (offs (IntKind.wrap IntKind.i64 (a - y1)) 0)) 0)) [.rcells (yh m_lv ++ [.ptr 1 0, .row 2]), .rcells [.row 3], .row 0 (yg : List (Int)) Bool.true, .row 70 (yf : List (List Int)) Bool.true])))))))) := by
  kernel_rfl
theorem ybf (yi : Y0) (yl : Y1) (a : Int) (K : V → Heap → Prop) : (exF (y7q yi yl) Try.f20 [.ext (.pointer none), vi a] [] K) = (
    K (vi (0)) []) := by
  kernel_rfl
theorem yba (y0h : Y3) (y0u : (List (List Int)) → (List Pr) → Option ((List Pr))) (y0s : yj → (List (List Int)) → Option (yj)) (m_lv : yb) (yg : List Int) (yf : List (List Int)) (K : V → Heap → Prop) : (exF (y84 y0h y0u y0s) Try.f17 [.ptr 0 0] [.rcells (yh m_lv ++ [.ptr 1 0, .row 2]), .rcells [.row 3], .row 0 yg true, .row 70 yf true] K) = (
    So (y0u yf []) (fun (y0 : List Pr) => (K (.row 4) [.rcells (yh m_lv ++ [.ptr 1 0, .row 2]), .rcells [.row 3], .row 0 (yg : List (Int)) Bool.true, .row 70 (yf : List (List Int)) Bool.true, .row 2 (y0 : List (Pr)) Bool.false]))) := by
  kernel_rfl
theorem y9w (y0h : Y3) (y0u : (List (List Int)) → (List Pr) → Option ((List Pr))) (y0s : yj → (List (List Int)) → Option (yj)) (K : V → Heap → Prop) : (exF (y6n y0h y0u y0s) Try.f17 [.ext (.pointer none)] [] K) = (
    K (.row 0) [.row 2 ([] : List (Pr)) Bool.false]) := by
  kernel_rfl
theorem y9h (yn : (List (List Int)) → Option (Int)) (y0l : Int → (List (List Int)) → Option (Int × yj × Bool)) (a : Int) (m_lv : yb) (yg : List Int) (yf : List (List Int)) (iv : Int) (K : V → Heap → Prop) (J1 : Env → Heap → Prop) : (ex (y2d yn y0l) (⟨46, 4⟩ : Cx) (at_ (bodyOf Try.f21) [1, 0, 1, 1, 1, 0, 0, 0]) (mkEnv [(0, .ptr 0 0), (1, vi (a)), (7, vi (iv))]) [.rcells (yh m_lv ++ [.ptr 1 0, .row 2]), .rcells [.row 3], .row 0 (yg : List (Int)) Bool.true, .row 70 (yf : List (List Int)) Bool.true] (roundK (y2d yn y0l) (⟨46, 4⟩ : Cx) (at_ (bodyOf Try.f21) [1, 0, 1, 1, 1, 0, 0, 0]) (contK (y2d yn y0l) (⟨46, 4⟩ : Cx) (bodyOf Try.f21) [1, 0, 1, 1, 1, 0, 0] (retK (y2d yn y0l) Try.f21 4 K)) J1)) = (
    So (yn yf) (fun (y0 : Int) => (br (Decidable.decide (iv < y0)) (So (y0l iv yf) (fun (y1 : Int × yj × Bool) => (br (Decidable.decide (Prod.fst y1 > a)) (K (.tup [vi (0), vi (0), vb (Bool.false)]) [.rcells (yh m_lv ++ [.ptr 1 0, .row 2]), .rcells [.row 3], .row 0 (yg : List (Int)) Bool.true, .row 70 (yf : List (List Int)) Bool.true]) (br (Decidable.decide (IntKind.wrap IntKind.i64 (a - Prod.fst y1) < yj.words (Prod.fst (Prod.snd y1)))) (K (.tup [vi (Prod.fst y1), vi (yj.words (Prod.fst (Prod.snd y1))), vb (Bool.true)]) [.rcells (yh m_lv ++ [.ptr 1 0, .row 2]), .rcells [.row 3], .row 0 (yg : List (Int)) Bool.true, .row 70 (yf : List (List Int)) Bool.true]) (J1 (mkEnv [(0, .ptr 0 0), (1, vi (a)), (7, vi (IntKind.wrap IntKind.i64 (iv + 1)))]) [.rcells (yh m_lv ++ [.ptr 1 0, .row 2]), .rcells [.row 3], .row 0 (yg : List (Int)) Bool.true, .row 70 (yf : List (List Int)) Bool.true]))))) (K (.tup [vi (0), vi (0), vb (Bool.false)]) [.rcells (yh m_lv ++ [.ptr 1 0, .row 2]), .rcells [.row 3], .row 0 (yg : List (Int)) Bool.true, .row 70 (yf : List (List Int)) Bool.true])))) := by
  kernel_rfl
theorem y9z (yn : (List (List Int)) → Option (Int)) (y0l : Int → (List (List Int)) → Option (Int × yj × Bool)) (a : Int) (m_lv : yb) (yg : List Int) (yf : List (List Int)) (K : V → Heap → Prop) : (exF (y2d yn y0l) Try.f21 [.ptr 0 0, vi a] [.rcells (yh m_lv ++ [.ptr 1 0, .row 2]), .rcells [.row 3], .row 0 yg true, .row 70 yf true] K) = (
    Loop (y2d yn y0l) (⟨46, 4⟩ : Cx) (at_ (bodyOf Try.f21) [1, 0, 1, 1, 1, 0, 0, 0]) (mkEnv [(0, .ptr 0 0), (1, vi (a)), (7, vi (0))]) [.rcells (yh m_lv ++ [.ptr 1 0, .row 2]), .rcells [.row 3], .row 0 (yg : List (Int)) Bool.true, .row 70 (yf : List (List Int)) Bool.true] (contK (y2d yn y0l) (⟨46, 4⟩ : Cx) (bodyOf Try.f21) [1, 0, 1, 1, 1, 0, 0] (retK (y2d yn y0l) Try.f21 4 K))) := by
  kernel_rfl
theorem ya9 (yn : (List (List Int)) → Option (Int)) (y0l : Int → (List (List Int)) → Option (Int × yj × Bool)) (a : Int) (K : V → Heap → Prop) : (exF (y6o yn y0l) Try.f21 [.ext (.pointer none), vi a] [] K) = (
    K (.tup [vi (0), vi (0), vb (Bool.false)]) []) := by
  kernel_rfl
theorem y9j (y1f : (List (List Int)) → Option ((List (List Int)))) (m_lv : yb) (yg : List Int) (yf : List (List Int)) (K : V → Heap → Prop) : (exFW (y8f y1f) [] wk_model_Model_Copy Try.f26 [.ptr 0 0] [.rcells (yh m_lv ++ [.ptr 1 0, .row 2]), .rcells [.row 3], .row 0 yg true, .row 70 yf true] K) = (
    ((So (y1f yf) (fun (y0 : List (List Int)) => (Req (Decidable.decide (0 + List.length yg ≤ 1048576)) (K (.ptr 4 0) [.rcells (yh m_lv ++ [.ptr 1 0, .row 2]), .rcells [.row 3], .row 0 (yg : List (Int)) Bool.true, .row 70 (yf : List (List Int)) Bool.true, .cells 0 (yh m_lv ++ [.ptr 5 0, .row 6]), .cells 0 [.row 7], .row 0 (yg : List (Int)) Bool.false, .row 70 (y0 : List (List Int)) Bool.false])))) ∧ (So (y1f yf) (fun (y1 : List (List Int)) => (Req (Decidable.decide (0 + List.length yg ≤ 1048576)) (K (.ptr 4 0) [.rcells (yh m_lv ++ [.ptr 1 0, .row 2]), .rcells [.row 3], .row 0 (yg : List (Int)) Bool.true, .row 70 (yf : List (List Int)) Bool.true, .cells 0 (yh m_lv ++ [.ptr 5 0, .row 6]), .cells 0 [.row 7], .row 0 (yg : List (Int)) Bool.false, .row 70 (y1 : List (List Int)) Bool.false])))))) := by
  kernel_rfl
theorem y8x (y1f : (List (List Int)) → Option ((List (List Int)))) (K : V → Heap → Prop) : (exF (y8n y1f) Try.f26 [.ext (.pointer none)] [] K) = (
    K (.ext (Go.Value.pointer Option.none)) []) := by
  kernel_rfl
theorem yat (y00 : Y6) (yi : Y0) (yl : Y1) (yq : Y0) (y0e : Y7) (y06 : Int → yb → (List Int) → (List (List Int)) → Option (Int × Int × Bool)) (c : ye) (rv : T_api_Reply) (m_lv : yb) (yg : List Int) (yf : List (List Int)) (t58 : Int) (t59 : Int) (K : V → Heap → Prop) (J1 : Env → Heap → Prop) : (ex (y1m y00 yi yl yq y0e y06) (⟨74, 4⟩ : Cx) (at_ (bodyOf Try.f73) [1, 1, 1, 1, 1, 0, 1, 0, 0]) (mkEnv [(0, .ptr 0 0), (5, .ptr 4 0), (58, vi (t58)), (59, vi (t59))]) [.rcells (yh m_lv ++ [.ptr 1 0, .row 2]), .rcells [.row 3], .row 0 (yg : List (Int)) Bool.true, .row 70 (yf : List (List Int)) Bool.true, .cells 46 (y0o rv)] (roundK (y1m y00 yi yl yq y0e y06) (⟨74, 4⟩ : Cx) (at_ (bodyOf Try.f73) [1, 1, 1, 1, 1, 0, 1, 0, 0]) (contK (y1m y00 yi yl yq y0e y06) (⟨74, 4⟩ : Cx) (bodyOf Try.f73) [1, 1, 1, 1, 1, 0, 1, 0] (retK (y1m y00 yi yl yq y0e y06) Try.f73 4 K)) J1)) = (
    br (Decidable.decide (t59 < t58)) (So (y06 (IntKind.wrap IntKind.i64 (T_api_Reply.Addr rv + t59)) m_lv yg yf) (fun (y0 : Int × Int × Bool) => (br (Prod.snd (Prod.snd y0)) (K (vb (Bool.false)) [.rcells (yh m_lv ++ [.ptr 1 0, .row 2]), .rcells [.row 3], .row 0 (yg : List (Int)) Bool.true, .row 70 (yf : List (List Int)) Bool.true]) (J1 (mkEnv [(0, .ptr 0 0), (5, .ptr 4 0), (58, vi (t58)), (59, vi (IntKind.wrap IntKind.i64 (t59 + 1)))]) [.rcells (yh m_lv ++ [.ptr 1 0, .row 2]), .rcells [.row 3], .row 0 (yg : List (Int)) Bool.true, .row 70 (yf : List (List Int)) Bool.true, .cells 46 (y0o rv)])))) (K (vb (Bool.true)) [.rcells (yh m_lv ++ [.ptr 1 0, .row 2]), .rcells [.row 3], .row 0 (yg : List (Int)) Bool.true, .row 70 (yf : List (List Int)) Bool.true])) := by
  kernel_rfl
theorem yav (y00 : Y6) (yi : Y0) (yl : Y1) (yq : Y0) (y0e : Y7) (y06 : Int → yb → (List Int) → (List (List Int)) → Option (Int × Int × Bool)) (c : ye) (rv : T_api_Reply) (m_lv : yb) (yg : List Int) (yf : List (List Int)) (K : V → Heap → Prop) : (exF (y1m y00 yi yl yq y0e y06) Try.f73 [.ptr 0 0, .agg (y1g c), .agg (y0o rv)] [.rcells (yh m_lv ++ [.ptr 1 0, .row 2]), .rcells [.row 3], .row 0 yg true, .row 70 yf true] K) = (
    br (ye.Kind c == 5) (So (y00 (ye.Size c) (ye.Align c)) (fun (y0 : Int) => (br (!(T_api_Reply.Err rv == 0 && (T_api_Reply.Addr rv == T_api_Reply.Addr rv && (T_api_Reply.Size rv == y0 && (T_api_Reply.Value rv == 0 && (ya.Blocks (T_api_Reply.Stats rv) == 0 && (ya.Asked (T_api_Reply.Stats rv) == 0 && (ya.Words (T_api_Reply.Stats rv) == 0 && (ya.Kept (T_api_Reply.Stats rv) == 0 && (ya.Open (T_api_Reply.Stats rv) == 0 && (ya.Mapped (T_api_Reply.Stats rv) == 0 && (ya.Used (T_api_Reply.Stats rv) == 0 && Bool.true)))))) && Bool.true)))))) (K (vb (Bool.false)) [.rcells (yh m_lv ++ [.ptr 1 0, .row 2]), .rcells [.row 3], .row 0 (yg : List (Int)) Bool.true, .row 70 (yf : List (List Int)) Bool.true]) (br (y0 == 0) (K (vb (Bool.false)) [.rcells (yh m_lv ++ [.ptr 1 0, .row 2]), .rcells [.row 3], .row 0 (yg : List (Int)) Bool.true, .row 70 (yf : List (List Int)) Bool.true]) (Req (!ye.Align c == 0) (br (Int.tmod (T_api_Reply.Addr rv) (ye.Align c) != 0) (K (vb (Bool.false)) [.rcells (yh m_lv ++ [.ptr 1 0, .row 2]), .rcells [.row 3], .row 0 (yg : List (Int)) Bool.true, .row 70 (yf : List (List Int)) Bool.true]) (So (yl m_lv (T_api_Reply.Addr rv)) (fun (y1 : Int × Int × Bool) => (br (!Prod.snd (Prod.snd y1)) (K (vb (Bool.false)) [.rcells (yh m_lv ++ [.ptr 1 0, .row 2]), .rcells [.row 3], .row 0 (yg : List (Int)) Bool.true, .row 70 (yf : List (List Int)) Bool.true]) (So (yi m_lv) (fun (y2 : Int) => (Req (inR (IntKind.wrap IntKind.i64 (T_api_Reply.Addr rv - y2)) (List.length yg)) (So (yq m_lv) (fun (y3 : Int) => (br (Decidable.decide (y0 > IntKind.wrap IntKind.i64 (y3 - T_api_Reply.Addr rv))) (K (vb (Bool.false)) [.rcells (yh m_lv ++ [.ptr 1 0, .row 2]), .rcells [.row 3], .row 0 (yg : List (Int)) Bool.true, .row 70 (yf : List (List Int)) Bool.true]) (Loop (y1m y00 yi yl yq y0e y06) (⟨74, 4⟩ : Cx) (at_ (bodyOf Try.f73) [1, 1, 1, 1, 1, 0, 1, 0, 0]) (mkEnv [(0, .ptr 0 0), (5, .ptr 4 0), (58, vi (y0)), (59, vi (0))]) [.rcells (yh m_lv ++ [.ptr 1 0, .row 2]), .rcells [.row 3], .row 0 (yg : List (Int)) Bool.true, .row 70 (yf : List (List Int)) Bool.true, .cells 46 (y0o rv)] (contK (y1m y00 yi yl yq y0e y06) (⟨74, 4⟩ : Cx) (bodyOf Try.f73) [1, 1, 1, 1, 1, 0, 1, 0] (retK (y1m y00 yi yl yq y0e y06) Try.f73 4 K)))))))))))))))))) (So (y00 (ye.Size c) 1) (fun (y4 : Int) => (br (!(T_api_Reply.Err rv == 0 && (T_api_Reply.Addr rv == T_api_Reply.Addr rv && (T_api_Reply.Size rv == y4 && (T_api_Reply.Value rv == 0 && (ya.Blocks (T_api_Reply.Stats rv) == 0 && (ya.Asked (T_api_Reply.Stats rv) == 0 && (ya.Words (T_api_Reply.Stats rv) == 0 && (ya.Kept (T_api_Reply.Stats rv) == 0 && (ya.Open (T_api_Reply.Stats rv) == 0 && (ya.Mapped (T_api_Reply.Stats rv) == 0 && (ya.Used (T_api_Reply.Stats rv) == 0 && Bool.true)))))) && Bool.true)))))) (K (vb (Bool.false)) [.rcells (yh m_lv ++ [.ptr 1 0, .row 2]), .rcells [.row 3], .row 0 (yg : List (Int)) Bool.true, .row 70 (yf : List (List Int)) Bool.true]) (br (y4 == 0) (K (vb (Bool.false)) [.rcells (yh m_lv ++ [.ptr 1 0, .row 2]), .rcells [.row 3], .row 0 (yg : List (Int)) Bool.true, .row 70 (yf : List (List Int)) Bool.true]) (br (Int.tmod (T_api_Reply.Addr rv) 1 != 0) (K (vb (Bool.false)) [.rcells (yh m_lv ++ [.ptr 1 0, .row 2]), .rcells [.row 3], .row 0 (yg : List (Int)) Bool.true, .row 70 (yf : List (List Int)) Bool.true]) (So (yl m_lv (T_api_Reply.Addr rv)) (fun (y5 : Int × Int × Bool) => (br (!Prod.snd (Prod.snd y5)) (K (vb (Bool.false)) [.rcells (yh m_lv ++ [.ptr 1 0, .row 2]), .rcells [.row 3], .row 0 (yg : List (Int)) Bool.true, .row 70 (yf : List (List Int)) Bool.true]) (So (yi m_lv) (fun (y6 : Int) => (Req (inR (IntKind.wrap IntKind.i64 (T_api_Reply.Addr rv - y6)) (List.length yg)) (So (yq m_lv) (fun (y7 : Int) => (br (Decidable.decide (y4 > IntKind.wrap IntKind.i64 (y7 - T_api_Reply.Addr rv))) (K (vb (Bool.false)) [.rcells (yh m_lv ++ [.ptr 1 0, .row 2]), .rcells [.row 3], .row 0 (yg : List (Int)) Bool.true, .row 70 (yf : List (List Int)) Bool.true]) (Loop (y1m y00 yi yl yq y0e y06) (⟨74, 4⟩ : Cx) (at_ (bodyOf Try.f73) [1, 1, 1, 1, 1, 0, 1, 0, 0]) (mkEnv [(0, .ptr 0 0), (5, .ptr 4 0), (58, vi (y4)), (59, vi (0))]) [.rcells (yh m_lv ++ [.ptr 1 0, .row 2]), .rcells [.row 3], .row 0 (yg : List (Int)) Bool.true, .row 70 (yf : List (List Int)) Bool.true, .cells 46 (y0o rv)] (contK (y1m y00 yi yl yq y0e y06) (⟨74, 4⟩ : Cx) (bodyOf Try.f73) [1, 1, 1, 1, 1, 0, 1, 0] (retK (y1m y00 yi yl yq y0e y06) Try.f73 4 K)))))))))))))))))) := by
  kernel_rfl
theorem yam (y0t : ye → T_api_Reply → yb → (List Int) → (List (List Int)) → Option (Bool)) (y02 : Int → yj → (List (List Int)) → Option (Bool × (List (List Int)))) (yi : Y0) (yl : Y1) (c : ye) (rv : T_api_Reply) (m_lv : yb) (yg : List Int) (yf : List (List Int)) (U : TypeId) (t35 : Int) (y08 : List Int) (w : List (List Int)) (K : V → Heap → Prop) (J1 : Env → Heap → Prop) : (ex (y2f y0t y02 yi yl) (⟨46, 4⟩ : Cx) (at_ (bodyOf Try.f36) [1, 1, 1, 0, 1, 0, 1, 0, 0]) (mkEnv [(0, .ptr 0 0), (5, .ptr 4 0), (34, vi (Go.Rx.T_api_Reply.Size rv)), (35, vi (t35))]) [.rcells (yh m_lv ++ [.ptr 1 0, .row 2]), .cells U [.row 5], .row 0 (y08 : List (Int)) Bool.false, .dead, .cells 46 (y0o rv), .row 70 (w : List (List Int)) Bool.false] (roundK (y2f y0t y02 yi yl) (⟨46, 4⟩ : Cx) (at_ (bodyOf Try.f36) [1, 1, 1, 0, 1, 0, 1, 0, 0]) (contK (y2f y0t y02 yi yl) (⟨46, 4⟩ : Cx) (bodyOf Try.f36) [1, 1, 1, 0, 1, 0, 1, 0] (retW (y2f y0t y02 yi yl) wk_model_Model_fresh Try.f36 4 K)) J1)) = (
    br (Decidable.decide (t35 < T_api_Reply.Size rv)) (So (yl m_lv (IntKind.wrap IntKind.i64 (T_api_Reply.Addr rv + t35))) (fun (y0 : Int × Int × Bool) => (br (!Prod.snd (Prod.snd y0)) (False) (So (yi m_lv) (fun (y1 : Int) => (Req (inR (IntKind.wrap IntKind.i64 (IntKind.wrap IntKind.i64 (T_api_Reply.Addr rv + t35) - y1)) (List.length y08)) (Req (inR (offs (IntKind.wrap IntKind.i64 (IntKind.wrap IntKind.i64 (T_api_Reply.Addr rv + t35) - y1)) 0) (List.length y08)) (J1 (mkEnv [(0, .ptr 0 0), (5, .ptr 4 0), (34, vi (T_api_Reply.Size rv)), (35, vi (IntKind.wrap IntKind.i64 (t35 + 1)))]) [.rcells (yh m_lv ++ [.ptr 1 0, .row 2]), .cells U [.row 5], .row 0 (List.set y08 (Int.toNat (offs (IntKind.wrap IntKind.i64 (IntKind.wrap IntKind.i64 (T_api_Reply.Addr rv + t35) - y1)) 0)) 0 : List (Int)) Bool.false, .dead, .cells 46 (y0o rv), .row 70 (w : List (List Int)) Bool.false])))))))) (K (vb (Bool.true)) [.rcells (yh m_lv ++ [.ptr 1 0, .row 2]), .cells U [.row 4], .row 0 (y08 : List (Int)) Bool.false, .dead, .row 70 (w : List (List Int)) Bool.false])) := by
  kernel_rfl
theorem ybc (y0t : ye → T_api_Reply → yb → (List Int) → (List (List Int)) → Option (Bool)) (y02 : Int → yj → (List (List Int)) → Option (Bool × (List (List Int)))) (yi : Y0) (yl : Y1) (c : ye) (rv : T_api_Reply) (m_lv : yb) (yg : List Int) (yf : List (List Int)) (U : TypeId) (K : V → Heap → Prop) : (exFW (y2f y0t y02 yi yl) [] wk_model_Model_fresh Try.f36 [.ptr 0 0, .agg (y1g c), .agg (y0o rv)] [.rcells (yh m_lv ++ [.ptr 1 0, .row 2]), .cells U [.row 3], .row 0 yg false, .row 70 yf false] K) = (
    br (T_api_Reply.Err rv == 6 && (T_api_Reply.Addr rv == 0 && (T_api_Reply.Size rv == 0 && (T_api_Reply.Value rv == 0 && (ya.Blocks (T_api_Reply.Stats rv) == 0 && (ya.Asked (T_api_Reply.Stats rv) == 0 && (ya.Words (T_api_Reply.Stats rv) == 0 && (ya.Kept (T_api_Reply.Stats rv) == 0 && (ya.Open (T_api_Reply.Stats rv) == 0 && (ya.Mapped (T_api_Reply.Stats rv) == 0 && (ya.Used (T_api_Reply.Stats rv) == 0 && Bool.true)))))) && Bool.true))))) (K (vb (Bool.true)) [.rcells (yh m_lv ++ [.ptr 1 0, .row 2]), .cells U [.row 4], .row 0 (yg : List (Int)) Bool.false, .dead, .row 70 (yf : List (List Int)) Bool.false]) (So (y0t c rv m_lv yg yf) (fun (y0 : Bool) => (br (!y0) (K (vb (Bool.false)) [.rcells (yh m_lv ++ [.ptr 1 0, .row 2]), .cells U [.row 4], .row 0 (yg : List (Int)) Bool.false, .dead, .row 70 (yf : List (List Int)) Bool.false]) (So (y02 (T_api_Reply.Addr rv) (yj.mk (ye.Size c) (T_api_Reply.Size rv)) yf) (fun (y1 : Bool × List (List Int)) => (br (ye.Kind c == 3) (Loop (y2f y0t y02 yi yl) (⟨46, 4⟩ : Cx) (at_ (bodyOf Try.f36) [1, 1, 1, 0, 1, 0, 1, 0, 0]) (mkEnv [(0, .ptr 0 0), (5, .ptr 4 0), (34, vi (T_api_Reply.Size rv)), (35, vi (0))]) [.rcells (yh m_lv ++ [.ptr 1 0, .row 2]), .cells U [.row 5], .row 0 (yg : List (Int)) Bool.false, .dead, .cells 46 (y0o rv), .row 70 (Prod.snd y1 : List (List Int)) Bool.false] (contK (y2f y0t y02 yi yl) (⟨46, 4⟩ : Cx) (bodyOf Try.f36) [1, 1, 1, 0, 1, 0, 1, 0] (retW (y2f y0t y02 yi yl) wk_model_Model_fresh Try.f36 4 K))) (K (vb (Bool.true)) [.rcells (yh m_lv ++ [.ptr 1 0, .row 2]), .cells U [.row 4], .row 0 (yg : List (Int)) Bool.false, .dead, .row 70 (Prod.snd y1 : List (List Int)) Bool.false])))))))) := by
  kernel_rfl
theorem ya5 (y05 : Int → (List (List Int)) → Option (yj × Bool)) (y01 : Y5) (y00 : Y6) (y02 : Int → yj → (List (List Int)) → Option (Bool × (List (List Int)))) (y04 : ye → T_api_Reply → yb → (List Int) → (List (List Int)) → Option (Bool × (List (List Int)) × (List Int))) (yi : Y0) (yl : Y1) (yy : Y2) (yp : Int → yb → (List Int) → (List (List Int)) → Option (Int)) (y0a : Int → (List (List Int)) → Option (Bool × (List (List Int)))) (c : ye) (rv : T_api_Reply) (m_lv : yb) (yg : List Int) (yf : List (List Int)) (U : TypeId) (t68 : Int) (t69 : Int) (y08 : List Int) (w : List (List Int)) (K : V → Heap → Prop) (J1 : Env → Heap → Prop) : (ex (y1k y05 y01 y00 y02 y04 yi yl yy yp y0a) (⟨93, 4⟩ : Cx) (at_ (bodyOf Try.f37) [1, 1, 1, 0, 1, 0, 0]) (mkEnv [(0, .ptr 0 0), (4, .ptr 4 0), (5, .ptr 5 0), (68, vi (t68)), (69, vi (t69))]) [.rcells (yh m_lv ++ [.ptr 1 0, .row 2]), .cells U [.row 6], .row 0 (y08 : List (Int)) Bool.false, .dead, .cells 42 (y1g c), .cells 46 (y0o rv), .row 70 (w : List (List Int)) Bool.false] (roundK (y1k y05 y01 y00 y02 y04 yi yl yy yp y0a) (⟨93, 4⟩ : Cx) (at_ (bodyOf Try.f37) [1, 1, 1, 0, 1, 0, 0]) (contK (y1k y05 y01 y00 y02 y04 yi yl yy yp y0a) (⟨93, 4⟩ : Cx) (bodyOf Try.f37) [1, 1, 1, 0, 1, 0] (retW (y1k y05 y01 y00 y02 y04 yi yl yy yp y0a) wk_model_Model_again Try.f37 4 K)) J1)) = (
    br (Decidable.decide (t69 < t68)) (So (yl m_lv (IntKind.wrap IntKind.i64 (T_api_Reply.Addr rv + t69))) (fun (y0 : Int × Int × Bool) => (br (!Prod.snd (Prod.snd y0)) (So (yp (IntKind.wrap IntKind.i64 (ye.Addr c + t69)) m_lv y08 w) (fun (y1 : Int) => (False))) (So (yi m_lv) (fun (y2 : Int) => (Req (inR (IntKind.wrap IntKind.i64 (IntKind.wrap IntKind.i64 (T_api_Reply.Addr rv + t69) - y2)) (List.length y08)) (So (yp (IntKind.wrap IntKind.i64 (ye.Addr c + t69)) m_lv y08 w) (fun (y3 : Int) => (Req (inR (offs (IntKind.wrap IntKind.i64 (IntKind.wrap IntKind.i64 (T_api_Reply.Addr rv + t69) - y2)) 0) (List.length y08)) (J1 (mkEnv [(0, .ptr 0 0), (4, .ptr 4 0), (5, .ptr 5 0), (68, vi (t68)), (69, vi (IntKind.wrap IntKind.i64 (t69 + 1)))]) [.rcells (yh m_lv ++ [.ptr 1 0, .row 2]), .cells U [.row 6], .row 0 (List.set y08 (Int.toNat (offs (IntKind.wrap IntKind.i64 (IntKind.wrap IntKind.i64 (T_api_Reply.Addr rv + t69) - y2)) 0)) y3 : List (Int)) Bool.false, .dead, .cells 42 (y1g c), .cells 46 (y0o rv), .row 70 (w : List (List Int)) Bool.false])))))))))) (So (y0a (ye.Addr c) w) (fun (y4 : Bool × List (List Int)) => (K (vb (Bool.true)) [.rcells (yh m_lv ++ [.ptr 1 0, .row 2]), .cells U [.row 4], .row 0 (y08 : List (Int)) Bool.false, .dead, .row 70 (Prod.snd y4 : List (List Int)) Bool.false])))) := by
  kernel_rfl
theorem yb1 (y05 : Int → (List (List Int)) → Option (yj × Bool)) (y01 : Y5) (y00 : Y6) (y02 : Int → yj → (List (List Int)) → Option (Bool × (List (List Int)))) (y04 : ye → T_api_Reply → yb → (List Int) → (List (List Int)) → Option (Bool × (List (List Int)) × (List Int))) (yi : Y0) (yl : Y1) (yy : Y2) (yp : Int → yb → (List Int) → (List (List Int)) → Option (Int)) (y0a : Int → (List (List Int)) → Option (Bool × (List (List Int)))) (c : ye) (rv : T_api_Reply) (m_lv : yb) (yg : List Int) (yf : List (List Int)) (U : TypeId) (K : V → Heap → Prop) : (exFW (y1k y05 y01 y00 y02 y04 yi yl yy yp y0a) [] wk_model_Model_again Try.f37 [.ptr 0 0, .agg (y1g c), .agg (y0o rv)] [.rcells (yh m_lv ++ [.ptr 1 0, .row 2]), .cells U [.row 3], .row 0 yg false, .row 70 yf false] K) = (
    ((So (y05 (ye.Addr c) yf) (fun (y0 : yj × Bool) => (br (!Prod.snd y0) (So (y01 rv) (fun (y1 : Bool) => (K (vb (y1)) [.rcells (yh m_lv ++ [.ptr 1 0, .row 2]), .cells U [.row 4], .row 0 (yg : List (Int)) Bool.false, .dead, .row 70 (yf : List (List Int)) Bool.false]))) (So (y00 (ye.Size c) 1) (fun (y2 : Int) => (br (y2 == yj.words (Prod.fst y0)) (br (T_api_Reply.Err rv == 0 && (T_api_Reply.Addr rv == ye.Addr c && (T_api_Reply.Size rv == yj.words (Prod.fst y0) && (T_api_Reply.Value rv == 0 && (ya.Blocks (T_api_Reply.Stats rv) == 0 && (ya.Asked (T_api_Reply.Stats rv) == 0 && (ya.Words (T_api_Reply.Stats rv) == 0 && (ya.Kept (T_api_Reply.Stats rv) == 0 && (ya.Open (T_api_Reply.Stats rv) == 0 && (ya.Mapped (T_api_Reply.Stats rv) == 0 && (ya.Used (T_api_Reply.Stats rv) == 0 && Bool.true)))))) && Bool.true))))) (So (y02 (ye.Addr c) (yj.mk (ye.Size c) (yj.words (Prod.fst y0))) yf) (fun (y3 : Bool × List (List Int)) => (K (vb (T_api_Reply.Err rv == 0 && (T_api_Reply.Addr rv == ye.Addr c && (T_api_Reply.Size rv == yj.words (Prod.fst y0) && (T_api_Reply.Value rv == 0 && (ya.Blocks (T_api_Reply.Stats rv) == 0 && (ya.Asked (T_api_Reply.Stats rv) == 0 && (ya.Words (T_api_Reply.Stats rv) == 0 && (ya.Kept (T_api_Reply.Stats rv) == 0 && (ya.Open (T_api_Reply.Stats rv) == 0 && (ya.Mapped (T_api_Reply.Stats rv) == 0 && (ya.Used (T_api_Reply.Stats rv) == 0 && Bool.true)))))) && Bool.true)))))) [.rcells (yh m_lv ++ [.ptr 1 0, .row 2]), .cells U [.row 4], .row 0 (yg : List (Int)) Bool.false, .dead, .row 70 (Prod.snd y3 : List (List Int)) Bool.false]))) (K (vb (T_api_Reply.Err rv == 0 && (T_api_Reply.Addr rv == ye.Addr c && (T_api_Reply.Size rv == yj.words (Prod.fst y0) && (T_api_Reply.Value rv == 0 && (ya.Blocks (T_api_Reply.Stats rv) == 0 && (ya.Asked (T_api_Reply.Stats rv) == 0 && (ya.Words (T_api_Reply.Stats rv) == 0 && (ya.Kept (T_api_Reply.Stats rv) == 0 && (ya.Open (T_api_Reply.Stats rv) == 0 && (ya.Mapped (T_api_Reply.Stats rv) == 0 && (ya.Used (T_api_Reply.Stats rv) == 0 && Bool.true)))))) && Bool.true)))))) [.rcells (yh m_lv ++ [.ptr 1 0, .row 2]), .cells U [.row 4], .row 0 (yg : List (Int)) Bool.false, .dead, .row 70 (yf : List (List Int)) Bool.false])) (So (y04 c rv m_lv yg yf) (fun (y4 : Bool × List (List Int) × List Int) => (br (!Prod.fst y4) (K (vb (Bool.false)) [.rcells (yh m_lv ++ [.ptr 1 0, .row 2]), .cells U [.row 4], .row 0 (Prod.snd (Prod.snd y4) : List (Int)) Bool.false, .dead, .row 70 (Prod.fst (Prod.snd y4) : List (List Int)) Bool.false]) (br (T_api_Reply.Err rv != 0) (K (vb (Bool.true)) [.rcells (yh m_lv ++ [.ptr 1 0, .row 2]), .cells U [.row 4], .row 0 (Prod.snd (Prod.snd y4) : List (Int)) Bool.false, .dead, .row 70 (Prod.fst (Prod.snd y4) : List (List Int)) Bool.false]) (Loop (y1k y05 y01 y00 y02 y04 yi yl yy yp y0a) (⟨93, 4⟩ : Cx) (at_ (bodyOf Try.f37) [1, 1, 1, 0, 1, 0, 0]) (mkEnv [(0, .ptr 0 0), (4, .ptr 4 0), (5, .ptr 5 0), (68, vi (if ye.Size c < yj.asked (Prod.fst y0) then ye.Size c else yj.asked (Prod.fst y0))), (69, vi (0))]) [.rcells (yh m_lv ++ [.ptr 1 0, .row 2]), .cells U [.row 6], .row 0 (Prod.snd (Prod.snd y4) : List (Int)) Bool.false, .dead, .cells 42 (y1g c), .cells 46 (y0o rv), .row 70 (Prod.fst (Prod.snd y4) : List (List Int)) Bool.false] (contK (y1k y05 y01 y00 y02 y04 yi yl yy yp y0a) (⟨93, 4⟩ : Cx) (bodyOf Try.f37) [1, 1, 1, 0, 1, 0] (retW (y1k y05 y01 y00 y02 y04 yi yl yy yp y0a) wk_model_Model_again Try.f37 4 K))))))))))))) ∧ (So (y05 (ye.Addr c) yf) (fun (y5 : yj × Bool) => (br (!Prod.snd y5) (So (y01 rv) (fun (y6 : Bool) => (K (vb (y6)) [.rcells (yh m_lv ++ [.ptr 1 0, .row 2]), .cells U [.row 4], .row 0 (yg : List (Int)) Bool.false, .dead, .row 70 (yf : List (List Int)) Bool.false]))) (So (y00 (ye.Size c) 1) (fun (y7 : Int) => (br (y7 == yj.words (Prod.fst y5)) (br (T_api_Reply.Err rv == 0 && (T_api_Reply.Addr rv == ye.Addr c && (T_api_Reply.Size rv == yj.words (Prod.fst y5) && (T_api_Reply.Value rv == 0 && (ya.Blocks (T_api_Reply.Stats rv) == 0 && (ya.Asked (T_api_Reply.Stats rv) == 0 && (ya.Words (T_api_Reply.Stats rv) == 0 && (ya.Kept (T_api_Reply.Stats rv) == 0 && (ya.Open (T_api_Reply.Stats rv) == 0 && (ya.Mapped (T_api_Reply.Stats rv) == 0 && (ya.Used (T_api_Reply.Stats rv) == 0 && Bool.true)))))) && Bool.true))))) (So (y02 (ye.Addr c) (yj.mk (ye.Size c) (yj.words (Prod.fst y5))) yf) (fun (y8 : Bool × List (List Int)) => (K (vb (T_api_Reply.Err rv == 0 && (T_api_Reply.Addr rv == ye.Addr c && (T_api_Reply.Size rv == yj.words (Prod.fst y5) && (T_api_Reply.Value rv == 0 && (ya.Blocks (T_api_Reply.Stats rv) == 0 && (ya.Asked (T_api_Reply.Stats rv) == 0 && (ya.Words (T_api_Reply.Stats rv) == 0 && (ya.Kept (T_api_Reply.Stats rv) == 0 && (ya.Open (T_api_Reply.Stats rv) == 0 && (ya.Mapped (T_api_Reply.Stats rv) == 0 && (ya.Used (T_api_Reply.Stats rv) == 0 && Bool.true)))))) && Bool.true)))))) [.rcells (yh m_lv ++ [.ptr 1 0, .row 2]), .cells U [.row 4], .row 0 (yg : List (Int)) Bool.false, .dead, .row 70 (Prod.snd y8 : List (List Int)) Bool.false]))) (K (vb (T_api_Reply.Err rv == 0 && (T_api_Reply.Addr rv == ye.Addr c && (T_api_Reply.Size rv == yj.words (Prod.fst y5) && (T_api_Reply.Value rv == 0 && (ya.Blocks (T_api_Reply.Stats rv) == 0 && (ya.Asked (T_api_Reply.Stats rv) == 0 && (ya.Words (T_api_Reply.Stats rv) == 0 && (ya.Kept (T_api_Reply.Stats rv) == 0 && (ya.Open (T_api_Reply.Stats rv) == 0 && (ya.Mapped (T_api_Reply.Stats rv) == 0 && (ya.Used (T_api_Reply.Stats rv) == 0 && Bool.true)))))) && Bool.true)))))) [.rcells (yh m_lv ++ [.ptr 1 0, .row 2]), .cells U [.row 4], .row 0 (yg : List (Int)) Bool.false, .dead, .row 70 (yf : List (List Int)) Bool.false])) (So (y04 c rv m_lv yg yf) (fun (y9 : Bool × List (List Int) × List Int) => (br (!Prod.fst y9) (K (vb (Bool.false)) [.rcells (yh m_lv ++ [.ptr 1 0, .row 2]), .cells U [.row 4], .row 0 (Prod.snd (Prod.snd y9) : List (Int)) Bool.false, .dead, .row 70 (Prod.fst (Prod.snd y9) : List (List Int)) Bool.false]) (br (T_api_Reply.Err rv != 0) (K (vb (Bool.true)) [.rcells (yh m_lv ++ [.ptr 1 0, .row 2]), .cells U [.row 4], .row 0 (Prod.snd (Prod.snd y9) : List (Int)) Bool.false, .dead, .row 70 (Prod.fst (Prod.snd y9) : List (List Int)) Bool.false]) (Loop (y1k y05 y01 y00 y02 y04 yi yl yy yp y0a) (⟨93, 4⟩ : Cx) (at_ (bodyOf Try.f37) [1, 1, 1, 0, 1, 0, 0]) (mkEnv [(0, .ptr 0 0), (4, .ptr 4 0), (5, .ptr 5 0), (68, vi (if ye.Size c < yj.asked (Prod.fst y5) then ye.Size c else yj.asked (Prod.fst y5))), (69, vi (0))]) [.rcells (yh m_lv ++ [.ptr 1 0, .row 2]), .cells U [.row 6], .row 0 (Prod.snd (Prod.snd y9) : List (Int)) Bool.false, .dead, .cells 42 (y1g c), .cells 46 (y0o rv), .row 70 (Prod.fst (Prod.snd y9) : List (List Int)) Bool.false] (contK (y1k y05 y01 y00 y02 y04 yi yl yy yp y0a) (⟨93, 4⟩ : Cx) (bodyOf Try.f37) [1, 1, 1, 0, 1, 0] (retW (y1k y05 y01 y00 y02 y04 yi yl yy yp y0a) wk_model_Model_again Try.f37 4 K))))))))))))))) := by
  kernel_rfl
theorem yb3 (y05 : Int → (List (List Int)) → Option (yj × Bool)) (y01 : Y5) (y0a : Int → (List (List Int)) → Option (Bool × (List (List Int)))) (c : ye) (rv : T_api_Reply) (m_lv : yb) (yg : List Int) (yf : List (List Int)) (U : TypeId) (K : V → Heap → Prop) : (exFW (y7j y05 y01 y0a) [] wk_model_Model_free Try.f38 [.ptr 0 0, .agg (y1g c), .agg (y0o rv)] [.rcells (yh m_lv ++ [.ptr 1 0, .row 2]), .cells U [.row 3], .row 0 yg true, .row 70 yf false] K) = (
    ((So (y05 (ye.Addr c) yf) (fun (y0 : yj × Bool) => (br (!Prod.snd y0) (br (ye.Addr c != 0) (So (y01 rv) (fun (y1 : Bool) => (K (vb (y1)) [.rcells (yh m_lv ++ [.ptr 1 0, .row 2]), .cells U [.row 4], .row 0 (yg : List (Int)) Bool.true, .dead, .row 70 (yf : List (List Int)) Bool.false]))) (br (!(T_api_Reply.Err rv == 0 && (T_api_Reply.Addr rv == 0 && (T_api_Reply.Size rv == 0 && (T_api_Reply.Value rv == 0 && (ya.Blocks (T_api_Reply.Stats rv) == 0 && (ya.Asked (T_api_Reply.Stats rv) == 0 && (ya.Words (T_api_Reply.Stats rv) == 0 && (ya.Kept (T_api_Reply.Stats rv) == 0 && (ya.Open (T_api_Reply.Stats rv) == 0 && (ya.Mapped (T_api_Reply.Stats rv) == 0 && (ya.Used (T_api_Reply.Stats rv) == 0 && Bool.true)))))) && Bool.true)))))) (K (vb (Bool.false)) [.rcells (yh m_lv ++ [.ptr 1 0, .row 2]), .cells U [.row 4], .row 0 (yg : List (Int)) Bool.true, .dead, .row 70 (yf : List (List Int)) Bool.false]) (So (y0a (ye.Addr c) yf) (fun (y2 : Bool × List (List Int)) => (K (vb (Bool.true)) [.rcells (yh m_lv ++ [.ptr 1 0, .row 2]), .cells U [.row 4], .row 0 (yg : List (Int)) Bool.true, .dead, .row 70 (Prod.snd y2 : List (List Int)) Bool.false]))))) (br (!(T_api_Reply.Err rv == 0 && (T_api_Reply.Addr rv == 0 && (T_api_Reply.Size rv == 0 && (T_api_Reply.Value rv == 0 && (ya.Blocks (T_api_Reply.Stats rv) == 0 && (ya.Asked (T_api_Reply.Stats rv) == 0 && (ya.Words (T_api_Reply.Stats rv) == 0 && (ya.Kept (T_api_Reply.Stats rv) == 0 && (ya.Open (T_api_Reply.Stats rv) == 0 && (ya.Mapped (T_api_Reply.Stats rv) == 0 && (ya.Used (T_api_Reply.Stats rv) == 0 && Bool.true)))))) && Bool.true)))))) (K (vb (Bool.false)) [.rcells (yh m_lv ++ [.ptr 1 0, .row 2]), .cells U [.row 4], .row 0 (yg : List (Int)) Bool.true, .dead, .row 70 (yf : List (List Int)) Bool.false]) (So (y0a (ye.Addr c) yf) (fun (y3 : Bool × List (List Int)) => (K (vb (Bool.true)) [.rcells (yh m_lv ++ [.ptr 1 0, .row 2]), .cells U [.row 4], .row 0 (yg : List (Int)) Bool.true, .dead, .row 70 (Prod.snd y3 : List (List Int)) Bool.false]))))))) ∧ (So (y05 (ye.Addr c) yf) (fun (y4 : yj × Bool) => (br (!Prod.snd y4) (br (ye.Addr c != 0) (So (y01 rv) (fun (y5 : Bool) => (K (vb (y5)) [.rcells (yh m_lv ++ [.ptr 1 0, .row 2]), .cells U [.row 4], .row 0 (yg : List (Int)) Bool.true, .dead, .row 70 (yf : List (List Int)) Bool.false]))) (br (!(T_api_Reply.Err rv == 0 && (T_api_Reply.Addr rv == 0 && (T_api_Reply.Size rv == 0 && (T_api_Reply.Value rv == 0 && (ya.Blocks (T_api_Reply.Stats rv) == 0 && (ya.Asked (T_api_Reply.Stats rv) == 0 && (ya.Words (T_api_Reply.Stats rv) == 0 && (ya.Kept (T_api_Reply.Stats rv) == 0 && (ya.Open (T_api_Reply.Stats rv) == 0 && (ya.Mapped (T_api_Reply.Stats rv) == 0 && (ya.Used (T_api_Reply.Stats rv) == 0 && Bool.true)))))) && Bool.true)))))) (K (vb (Bool.false)) [.rcells (yh m_lv ++ [.ptr 1 0, .row 2]), .cells U [.row 4], .row 0 (yg : List (Int)) Bool.true, .dead, .row 70 (yf : List (List Int)) Bool.false]) (So (y0a (ye.Addr c) yf) (fun (y6 : Bool × List (List Int)) => (K (vb (Bool.true)) [.rcells (yh m_lv ++ [.ptr 1 0, .row 2]), .cells U [.row 4], .row 0 (yg : List (Int)) Bool.true, .dead, .row 70 (Prod.snd y6 : List (List Int)) Bool.false]))))) (br (!(T_api_Reply.Err rv == 0 && (T_api_Reply.Addr rv == 0 && (T_api_Reply.Size rv == 0 && (T_api_Reply.Value rv == 0 && (ya.Blocks (T_api_Reply.Stats rv) == 0 && (ya.Asked (T_api_Reply.Stats rv) == 0 && (ya.Words (T_api_Reply.Stats rv) == 0 && (ya.Kept (T_api_Reply.Stats rv) == 0 && (ya.Open (T_api_Reply.Stats rv) == 0 && (ya.Mapped (T_api_Reply.Stats rv) == 0 && (ya.Used (T_api_Reply.Stats rv) == 0 && Bool.true)))))) && Bool.true)))))) (K (vb (Bool.false)) [.rcells (yh m_lv ++ [.ptr 1 0, .row 2]), .cells U [.row 4], .row 0 (yg : List (Int)) Bool.true, .dead, .row 70 (yf : List (List Int)) Bool.false]) (So (y0a (ye.Addr c) yf) (fun (y7 : Bool × List (List Int)) => (K (vb (Bool.true)) [.rcells (yh m_lv ++ [.ptr 1 0, .row 2]), .cells U [.row 4], .row 0 (yg : List (Int)) Bool.true, .dead, .row 70 (Prod.snd y7 : List (List Int)) Bool.false]))))))))) := by
  kernel_rfl
theorem yai (y05 : Int → (List (List Int)) → Option (yj × Bool)) (y01 : Y5) (c : ye) (rv : T_api_Reply) (m_lv : yb) (yg : List Int) (yf : List (List Int)) (K : V → Heap → Prop) : (exF (y8b y05 y01) Try.f39 [.ptr 0 0, .agg (y1g c), .agg (y0o rv)] [.rcells (yh m_lv ++ [.ptr 1 0, .row 2]), .rcells [.row 3], .row 0 yg true, .row 70 yf true] K) = (
    ((So (y05 (ye.Addr c) yf) (fun (y0 : yj × Bool) => (br (!Prod.snd y0) (So (y01 rv) (fun (y1 : Bool) => (K (vb (y1)) [.rcells (yh m_lv ++ [.ptr 1 0, .row 2]), .rcells [.row 3], .row 0 (yg : List (Int)) Bool.true, .row 70 (yf : List (List Int)) Bool.true]))) (K (vb (T_api_Reply.Err rv == 0 && (T_api_Reply.Addr rv == 0 && (T_api_Reply.Size rv == yj.words (Prod.fst y0) && (T_api_Reply.Value rv == 0 && (ya.Blocks (T_api_Reply.Stats rv) == 0 && (ya.Asked (T_api_Reply.Stats rv) == 0 && (ya.Words (T_api_Reply.Stats rv) == 0 && (ya.Kept (T_api_Reply.Stats rv) == 0 && (ya.Open (T_api_Reply.Stats rv) == 0 && (ya.Mapped (T_api_Reply.Stats rv) == 0 && (ya.Used (T_api_Reply.Stats rv) == 0 && Bool.true)))))) && Bool.true)))))) [.rcells (yh m_lv ++ [.ptr 1 0, .row 2]), .rcells [.row 3], .row 0 (yg : List (Int)) Bool.true, .row 70 (yf : List (List Int)) Bool.true])))) ∧ (So (y05 (ye.Addr c) yf) (fun (y2 : yj × Bool) => (br (!Prod.snd y2) (So (y01 rv) (fun (y3 : Bool) => (K (vb (y3)) [.rcells (yh m_lv ++ [.ptr 1 0, .row 2]), .rcells [.row 3], .row 0 (yg : List (Int)) Bool.true, .row 70 (yf : List (List Int)) Bool.true]))) (K (vb (T_api_Reply.Err rv == 0 && (T_api_Reply.Addr rv == 0 && (T_api_Reply.Size rv == yj.words (Prod.fst y2) && (T_api_Reply.Value rv == 0 && (ya.Blocks (T_api_Reply.Stats rv) == 0 && (ya.Asked (T_api_Reply.Stats rv) == 0 && (ya.Words (T_api_Reply.Stats rv) == 0 && (ya.Kept (T_api_Reply.Stats rv) == 0 && (ya.Open (T_api_Reply.Stats rv) == 0 && (ya.Mapped (T_api_Reply.Stats rv) == 0 && (ya.Used (T_api_Reply.Stats rv) == 0 && Bool.true)))))) && Bool.true)))))) [.rcells (yh m_lv ++ [.ptr 1 0, .row 2]), .rcells [.row 3], .row 0 (yg : List (Int)) Bool.true, .row 70 (yf : List (List Int)) Bool.true])))))) := by
  kernel_rfl
theorem y9i (y0m : Y11) (y0u : (List (List Int)) → (List Pr) → Option ((List Pr))) (y0s : yj → (List (List Int)) → Option (yj)) (y1j : ya → Option (Bool)) (y0r : Y17) (yn : (List (List Int)) → Option (Int)) (rv : T_api_Reply) (m_lv : yb) (yg : List Int) (yf : List (List Int)) (K : V → Heap → Prop) : (exF (y87 y0m y0u y0s y1j y0r yn) Try.f41 [.ptr 0 0, .agg (y0o rv)] [.rcells (yh m_lv ++ [.ptr 1 0, .row 2]), .rcells [.row 3], .row 0 yg true, .row 70 yf true] K) = (
    So (y0s (yj.mk 0 0) yf) (fun (y0 : yj) => (br (!(T_api_Reply.Err rv == 0 && (T_api_Reply.Addr rv == 0 && (T_api_Reply.Size rv == 0 && (T_api_Reply.Value rv == 0 && (ya.Blocks (T_api_Reply.Stats rv) == ya.Blocks (T_api_Reply.Stats rv) && (ya.Asked (T_api_Reply.Stats rv) == ya.Asked (T_api_Reply.Stats rv) && (ya.Words (T_api_Reply.Stats rv) == ya.Words (T_api_Reply.Stats rv) && (ya.Kept (T_api_Reply.Stats rv) == ya.Kept (T_api_Reply.Stats rv) && (ya.Open (T_api_Reply.Stats rv) == ya.Open (T_api_Reply.Stats rv) && (ya.Mapped (T_api_Reply.Stats rv) == ya.Mapped (T_api_Reply.Stats rv) && (ya.Used (T_api_Reply.Stats rv) == ya.Used (T_api_Reply.Stats rv) && Bool.true)))))) && Bool.true)))))) (K (vb (Bool.false)) [.rcells (yh m_lv ++ [.ptr 1 0, .row 2]), .rcells [.row 3], .row 0 (yg : List (Int)) Bool.true, .row 70 (yf : List (List Int)) Bool.true]) (So (y1j (T_api_Reply.Stats rv)) (fun (y1 : Bool) => (br (!y1) (K (vb (Bool.false)) [.rcells (yh m_lv ++ [.ptr 1 0, .row 2]), .rcells [.row 3], .row 0 (yg : List (Int)) Bool.true, .row 70 (yf : List (List Int)) Bool.true]) (So (y0r m_lv) (fun (y2 : yc) => (br (Decidable.decide (ya.Mapped (T_api_Reply.Stats rv) > yc.Pages y2)) (K (vb (Bool.false)) [.rcells (yh m_lv ++ [.ptr 1 0, .row 2]), .rcells [.row 3], .row 0 (yg : List (Int)) Bool.true, .row 70 (yf : List (List Int)) Bool.true]) (So (yn yf) (fun (y3 : Int) => (br (ya.Blocks (T_api_Reply.Stats rv) == y3) (br (ya.Asked (T_api_Reply.Stats rv) == yj.asked y0) (K (vb (ya.Words (T_api_Reply.Stats rv) == yj.words y0)) [.rcells (yh m_lv ++ [.ptr 1 0, .row 2]), .rcells [.row 3], .row 0 (yg : List (Int)) Bool.true, .row 70 (yf : List (List Int)) Bool.true]) (K (vb (Bool.false)) [.rcells (yh m_lv ++ [.ptr 1 0, .row 2]), .rcells [.row 3], .row 0 (yg : List (Int)) Bool.true, .row 70 (yf : List (List Int)) Bool.true])) (K (vb (Bool.false)) [.rcells (yh m_lv ++ [.ptr 1 0, .row 2]), .rcells [.row 3], .row 0 (yg : List (Int)) Bool.true, .row 70 (yf : List (List Int)) Bool.true]))))))))))))) := by
  kernel_rfl
theorem y99 (y0e : Y7) (y06 : Int → yb → (List Int) → (List (List Int)) → Option (Int × Int × Bool)) (y01 : Y5) (yy : Y2) (yp : Int → yb → (List Int) → (List (List Int)) → Option (Int)) (yi : Y0) (yl : Y1) (c : ye) (rv : T_api_Reply) (m_lv : yb) (yg : List Int) (yf : List (List Int)) (K : V → Heap → Prop) : (exF (y6z y0e y06 y01 yy yp yi yl) Try.f42 [.ptr 0 0, .agg (y1g c), .agg (y0o rv)] [.rcells (yh m_lv ++ [.ptr 1 0, .row 2]), .rcells [.row 3], .row 0 yg false, .row 70 yf true] K) = (
    So (y06 (ye.Addr c) m_lv yg yf) (fun (y0 : Int × Int × Bool) => (br (!Prod.snd (Prod.snd y0)) (So (y01 rv) (fun (y1 : Bool) => (K (vb (y1)) [.rcells (yh m_lv ++ [.ptr 1 0, .row 2]), .rcells [.row 3], .row 0 (yg : List (Int)) Bool.false, .row 70 (yf : List (List Int)) Bool.true]))) (br (ye.Kind c == 11) (So (yp (ye.Addr c) m_lv yg yf) (fun (y2 : Int) => (K (vb (T_api_Reply.Err rv == 0 && (T_api_Reply.Addr rv == 0 && (T_api_Reply.Size rv == 0 && (T_api_Reply.Value rv == y2 && (ya.Blocks (T_api_Reply.Stats rv) == 0 && (ya.Asked (T_api_Reply.Stats rv) == 0 && (ya.Words (T_api_Reply.Stats rv) == 0 && (ya.Kept (T_api_Reply.Stats rv) == 0 && (ya.Open (T_api_Reply.Stats rv) == 0 && (ya.Mapped (T_api_Reply.Stats rv) == 0 && (ya.Used (T_api_Reply.Stats rv) == 0 && Bool.true)))))) && Bool.true)))))) [.rcells (yh m_lv ++ [.ptr 1 0, .row 2]), .rcells [.row 3], .row 0 (yg : List (Int)) Bool.false, .row 70 (yf : List (List Int)) Bool.true]))) (br (!(T_api_Reply.Err rv == 0 && (T_api_Reply.Addr rv == 0 && (T_api_Reply.Size rv == 0 && (T_api_Reply.Value rv == 0 && (ya.Blocks (T_api_Reply.Stats rv) == 0 && (ya.Asked (T_api_Reply.Stats rv) == 0 && (ya.Words (T_api_Reply.Stats rv) == 0 && (ya.Kept (T_api_Reply.Stats rv) == 0 && (ya.Open (T_api_Reply.Stats rv) == 0 && (ya.Mapped (T_api_Reply.Stats rv) == 0 && (ya.Used (T_api_Reply.Stats rv) == 0 && Bool.true)))))) && Bool.true)))))) (K (vb (Bool.false)) [.rcells (yh m_lv ++ [.ptr 1 0, .row 2]), .rcells [.row 3], .row 0 (yg : List (Int)) Bool.false, .row 70 (yf : List (List Int)) Bool.true]) (So (yl m_lv (ye.Addr c)) (fun (y3 : Int × Int × Bool) => (br (!Prod.snd (Prod.snd y3)) (False) (So (yi m_lv) (fun (y4 : Int) => (Req (inR (IntKind.wrap IntKind.i64 (ye.Addr c - y4)) (List.length yg)) (Req (inR (offs (IntKind.wrap IntKind.i64 (ye.Addr c - y4)) 0) (List.length yg)) (K (vb (Bool.true)) [.rcells (yh m_lv ++ [.ptr 1 0, .row 2]), .rcells [.row 3], .row 0 (List.set yg (Int.toNat (offs (IntKind.wrap IntKind.i64 (ye.Addr c - y4)) 0)) (ye.Value c) : List (Int)) Bool.false, .row 70 (yf : List (List Int)) Bool.true]))))))))))))) := by
  kernel_rfl
theorem y9o (y1b : Y16) (y04 : ye → T_api_Reply → yb → (List Int) → (List (List Int)) → Option (Bool × (List (List Int)) × (List Int))) (y1d : ye → T_api_Reply → yb → (List Int) → (List (List Int)) → Option (Bool × (List (List Int)) × (List Int))) (y1a : ye → T_api_Reply → yb → (List Int) → (List (List Int)) → Option (Bool × (List (List Int)))) (y1e : ye → T_api_Reply → yb → (List Int) → (List (List Int)) → Option (Bool)) (y0r : Y17) (y0z : T_api_Reply → yb → (List Int) → (List (List Int)) → Option (Bool)) (y1c : ye → T_api_Reply → yb → (List Int) → (List (List Int)) → Option (Bool × (List Int))) (c : ye) (rv : T_api_Reply) (m_lv : yb) (yg : List Int) (yf : List (List Int)) (U : TypeId) (K : V → Heap → Prop) : (exFW (y6u y1b y04 y1d y1a y1e y0r y0z y1c) [] wk_model_Model_Step Try.f15 [.ptr 0 0, .agg (y1g c), .agg (y0o rv)] [.rcells (yh m_lv ++ [.ptr 1 0, .row 2]), .cells U [.row 3], .row 0 yg false, .row 70 yf false] K) = (
    br (T_api_Reply.Err rv == 8 && (T_api_Reply.Addr rv == 0 && (T_api_Reply.Size rv == 0 && (T_api_Reply.Value rv == 0 && (ya.Blocks (T_api_Reply.Stats rv) == 0 && (ya.Asked (T_api_Reply.Stats rv) == 0 && (ya.Words (T_api_Reply.Stats rv) == 0 && (ya.Kept (T_api_Reply.Stats rv) == 0 && (ya.Open (T_api_Reply.Stats rv) == 0 && (ya.Mapped (T_api_Reply.Stats rv) == 0 && (ya.Used (T_api_Reply.Stats rv) == 0 && Bool.true)))))) && Bool.true))))) (K (vb (Bool.true)) [.rcells (yh m_lv ++ [.ptr 1 0, .row 2]), .cells U [.row 4], .row 0 (yg : List (Int)) Bool.false, .dead, .row 70 (yf : List (List Int)) Bool.false]) (So (y1b c) (fun (y0 : Int) => (br (y0 != 0) (K (vb (T_api_Reply.Err rv == y0 && (T_api_Reply.Addr rv == 0 && (T_api_Reply.Size rv == 0 && (T_api_Reply.Value rv == 0 && (ya.Blocks (T_api_Reply.Stats rv) == 0 && (ya.Asked (T_api_Reply.Stats rv) == 0 && (ya.Words (T_api_Reply.Stats rv) == 0 && (ya.Kept (T_api_Reply.Stats rv) == 0 && (ya.Open (T_api_Reply.Stats rv) == 0 && (ya.Mapped (T_api_Reply.Stats rv) == 0 && (ya.Used (T_api_Reply.Stats rv) == 0 && Bool.true)))))) && Bool.true)))))) [.rcells (yh m_lv ++ [.ptr 1 0, .row 2]), .cells U [.row 4], .row 0 (yg : List (Int)) Bool.false, .dead, .row 70 (yf : List (List Int)) Bool.false]) (br (ye.Kind c == 1) (So (y04 c rv m_lv yg yf) (fun (y1 : Bool × List (List Int) × List Int) => (K (vb (Prod.fst y1)) [.rcells (yh m_lv ++ [.ptr 1 0, .row 2]), .cells U [.row 4], .row 0 (Prod.snd (Prod.snd y1) : List (Int)) Bool.false, .dead, .row 70 (Prod.fst (Prod.snd y1) : List (List Int)) Bool.false]))) (br (ye.Kind c == 3) (So (y04 c rv m_lv yg yf) (fun (y2 : Bool × List (List Int) × List Int) => (K (vb (Prod.fst y2)) [.rcells (yh m_lv ++ [.ptr 1 0, .row 2]), .cells U [.row 4], .row 0 (Prod.snd (Prod.snd y2) : List (Int)) Bool.false, .dead, .row 70 (Prod.fst (Prod.snd y2) : List (List Int)) Bool.false]))) (br (ye.Kind c == 5) (So (y04 c rv m_lv yg yf) (fun (y3 : Bool × List (List Int) × List Int) => (K (vb (Prod.fst y3)) [.rcells (yh m_lv ++ [.ptr 1 0, .row 2]), .cells U [.row 4], .row 0 (Prod.snd (Prod.snd y3) : List (Int)) Bool.false, .dead, .row 70 (Prod.fst (Prod.snd y3) : List (List Int)) Bool.false]))) (br (ye.Kind c == 4) (br (ye.Addr c == 0) (So (y04 c rv m_lv yg yf) (fun (y4 : Bool × List (List Int) × List Int) => (K (vb (Prod.fst y4)) [.rcells (yh m_lv ++ [.ptr 1 0, .row 2]), .cells U [.row 4], .row 0 (Prod.snd (Prod.snd y4) : List (Int)) Bool.false, .dead, .row 70 (Prod.fst (Prod.snd y4) : List (List Int)) Bool.false]))) (So (y1d c rv m_lv yg yf) (fun (y5 : Bool × List (List Int) × List Int) => (K (vb (Prod.fst y5)) [.rcells (yh m_lv ++ [.ptr 1 0, .row 2]), .cells U [.row 4], .row 0 (Prod.snd (Prod.snd y5) : List (Int)) Bool.false, .dead, .row 70 (Prod.fst (Prod.snd y5) : List (List Int)) Bool.false])))) (br (ye.Kind c == 2) (So (y1a c rv m_lv yg yf) (fun (y6 : Bool × List (List Int)) => (K (vb (Prod.fst y6)) [.rcells (yh m_lv ++ [.ptr 1 0, .row 2]), .cells U [.row 4], .row 0 (yg : List (Int)) Bool.false, .dead, .row 70 (Prod.snd y6 : List (List Int)) Bool.false]))) (br (ye.Kind c == 6) (So (y1e c rv m_lv yg yf) (fun (y7 : Bool) => (K (vb (y7)) [.rcells (yh m_lv ++ [.ptr 1 0, .row 2]), .cells U [.row 4], .row 0 (yg : List (Int)) Bool.false, .dead, .row 70 (yf : List (List Int)) Bool.false]))) (br (ye.Kind c == 7) (K (vb (T_api_Reply.Err rv == 0 && (T_api_Reply.Addr rv == 0 && (T_api_Reply.Size rv == 0 && (T_api_Reply.Value rv == 0 && (ya.Blocks (T_api_Reply.Stats rv) == 0 && (ya.Asked (T_api_Reply.Stats rv) == 0 && (ya.Words (T_api_Reply.Stats rv) == 0 && (ya.Kept (T_api_Reply.Stats rv) == 0 && (ya.Open (T_api_Reply.Stats rv) == 0 && (ya.Mapped (T_api_Reply.Stats rv) == 0 && (ya.Used (T_api_Reply.Stats rv) == 0 && Bool.true)))))) && Bool.true)))))) [.rcells (yh m_lv ++ [.ptr 1 0, .row 2]), .cells U [.row 4], .row 0 (yg : List (Int)) Bool.false, .dead, .row 70 (yf : List (List Int)) Bool.false]) (br (ye.Kind c == 9) (K (vb (T_api_Reply.Err rv == 0 && (T_api_Reply.Addr rv == 0 && (T_api_Reply.Size rv == 0 && (T_api_Reply.Value rv == 0 && (ya.Blocks (T_api_Reply.Stats rv) == 0 && (ya.Asked (T_api_Reply.Stats rv) == 0 && (ya.Words (T_api_Reply.Stats rv) == 0 && (ya.Kept (T_api_Reply.Stats rv) == 0 && (ya.Open (T_api_Reply.Stats rv) == 0 && (ya.Mapped (T_api_Reply.Stats rv) == 0 && (ya.Used (T_api_Reply.Stats rv) == 0 && Bool.true)))))) && Bool.true)))))) [.rcells (yh m_lv ++ [.ptr 1 0, .row 2]), .cells U [.row 4], .row 0 (yg : List (Int)) Bool.false, .dead, .row 70 (yf : List (List Int)) Bool.false]) (br (ye.Kind c == 8) (br (T_api_Reply.Err rv == 0 && (T_api_Reply.Addr rv == 0 && (T_api_Reply.Size rv == T_api_Reply.Size rv && (T_api_Reply.Value rv == 0 && (ya.Blocks (T_api_Reply.Stats rv) == 0 && (ya.Asked (T_api_Reply.Stats rv) == 0 && (ya.Words (T_api_Reply.Stats rv) == 0 && (ya.Kept (T_api_Reply.Stats rv) == 0 && (ya.Open (T_api_Reply.Stats rv) == 0 && (ya.Mapped (T_api_Reply.Stats rv) == 0 && (ya.Used (T_api_Reply.Stats rv) == 0 && Bool.true)))))) && Bool.true))))) (br (Decidable.decide (T_api_Reply.Size rv ≥ 0)) (So (y0r m_lv) (fun (y8 : yc) => (K (vb (Decidable.decide (T_api_Reply.Size rv ≤ yc.Pages y8))) [.rcells (yh m_lv ++ [.ptr 1 0, .row 2]), .cells U [.row 4], .row 0 (yg : List (Int)) Bool.false, .dead, .row 70 (yf : List (List Int)) Bool.false]))) (K (vb (Bool.false)) [.rcells (yh m_lv ++ [.ptr 1 0, .row 2]), .cells U [.row 4], .row 0 (yg : List (Int)) Bool.false, .dead, .row 70 (yf : List (List Int)) Bool.false])) (K (vb (Bool.false)) [.rcells (yh m_lv ++ [.ptr 1 0, .row 2]), .cells U [.row 4], .row 0 (yg : List (Int)) Bool.false, .dead, .row 70 (yf : List (List Int)) Bool.false])) (br (ye.Kind c == 10) (So (y0z rv m_lv yg yf) (fun (y9 : Bool) => (K (vb (y9)) [.rcells (yh m_lv ++ [.ptr 1 0, .row 2]), .cells U [.row 4], .row 0 (yg : List (Int)) Bool.false, .dead, .row 70 (yf : List (List Int)) Bool.false]))) (So (y1c c rv m_lv yg yf) (fun (y10 : Bool × List Int) => (K (vb (Prod.fst y10)) [.rcells (yh m_lv ++ [.ptr 1 0, .row 2]), .cells U [.row 4], .row 0 (Prod.snd y10 : List (Int)) Bool.false, .dead, .row 70 (yf : List (List Int)) Bool.false]))))))))))))))))) := by
  kernel_rfl
theorem y9d (y1b : Y16) (y04 : ye → T_api_Reply → yb → (List Int) → (List (List Int)) → Option (Bool × (List (List Int)) × (List Int))) (y1d : ye → T_api_Reply → yb → (List Int) → (List (List Int)) → Option (Bool × (List (List Int)) × (List Int))) (y1a : ye → T_api_Reply → yb → (List Int) → (List (List Int)) → Option (Bool × (List (List Int)))) (y1e : ye → T_api_Reply → yb → (List Int) → (List (List Int)) → Option (Bool)) (y0r : Y17) (y0z : T_api_Reply → yb → (List Int) → (List (List Int)) → Option (Bool)) (y1c : ye → T_api_Reply → yb → (List Int) → (List (List Int)) → Option (Bool × (List Int))) (c : ye) (rv : T_api_Reply) (K : V → Heap → Prop) : (exF (y7h y1b y04 y1d y1a y1e y0r y0z y1c) Try.f15 [.ext (.pointer none), .agg (y1g c), .agg (y0o rv)] [] K) = (
    K (vb (Bool.false)) []) := by
  kernel_rfl
noncomputable def y1i (c : yc) : Option (Bool × Int × yb × (List Int) × (List (List Int))) :=
  ((y09 c).bind fun y0 => (bif (Prod.snd y0 != 0) then some (((Bool.false), (Prod.snd y0), ((yb.mk (yc.mk (0) (0) (0) (0) (0) (0) (0) (0) (0) (0) (0)) (0) (0) (0) (0) (0) (0) (0) (0) (0) (0) (0) (0))), ([]), ([]))) else ((yq (Prod.fst y0)).bind fun y1 => ((yi (Prod.fst y0)).bind fun y2 => (bif (Decidable.decide (0 ≤ IntKind.wrap IntKind.i64 (y1 - y2) ∧ IntKind.wrap IntKind.i64 (y1 - y2) ≤ IntKind.wrap IntKind.i64 (y1 - y2) ∧ IntKind.wrap IntKind.i64 (y1 - y2) ≤ 1048576)) then some (((Bool.true), (0), ((Prod.fst y0)), (List.replicate (Int.toNat (IntKind.wrap IntKind.i64 (y1 - y2))) (0 : Int)), ([]))) else none)))))
noncomputable def y00 (size : Int) (align : Int) : Option (Int) :=
  (bif (Decidable.decide (size > 1048576)) then some ((0)) else ((y1u size align).bind fun y0 => some ((Prod.fst y0))))
noncomputable def y01 (rv : T_api_Reply) : Option (Bool) :=
  some ((T_api_Reply.Err rv == 7 && (T_api_Reply.Addr rv == 0 && (T_api_Reply.Size rv == 0 && (T_api_Reply.Value rv == 0 && (ya.Blocks (T_api_Reply.Stats rv) == 0 && (ya.Asked (T_api_Reply.Stats rv) == 0 && (ya.Words (T_api_Reply.Stats rv) == 0 && (ya.Kept (T_api_Reply.Stats rv) == 0 && (ya.Open (T_api_Reply.Stats rv) == 0 && (ya.Mapped (T_api_Reply.Stats rv) == 0 && (ya.Used (T_api_Reply.Stats rv) == 0 && Bool.true)))))) && Bool.true))))))
noncomputable def yp (a : Int) (m_lv : yb) (yg : List Int) (yf : List (List Int)) : Option (Int) :=
  ((yl m_lv a).bind fun y0 => (bif (!Prod.snd (Prod.snd y0)) then some ((0)) else ((yi m_lv).bind fun y1 => (bif (inR (IntKind.wrap IntKind.i64 (a - y1)) (List.length yg)) then (bif (inR (offs (IntKind.wrap IntKind.i64 (a - y1)) 0) (List.length yg)) then some ((List.getD yg (Int.toNat (offs (IntKind.wrap IntKind.i64 (a - y1)) 0)) 0)) else none) else none))))
noncomputable def yy (a : Int) : Option (Int) :=
  some ((0))
noncomputable def yz (m_lv : yb) (yg : List Int) (yf : List (List Int)) : Option ((List Pr)) :=
  ((y0u yf []).bind fun y0 => some ((y0)))
noncomputable def y0f  : Option ((List Pr)) :=
  some (([]))
noncomputable def y2k (a : Int) (yf : List (List Int)) (iv : Int) : Option ((Int) ⊕ (Int × Int × Bool)) :=
  ((yn yf).bind fun y0 => (bif (Decidable.decide (iv < y0)) then ((y0l iv yf).bind fun y1 => (bif (Decidable.decide (Prod.fst y1 > a)) then some (.inr (((0), (0), (Bool.false)))) else (bif (Decidable.decide (IntKind.wrap IntKind.i64 (a - Prod.fst y1) < yj.words (Prod.fst (Prod.snd y1)))) then some (.inr (((Prod.fst y1), (yj.words (Prod.fst (Prod.snd y1))), (Bool.true)))) else some (.inl (IntKind.wrap IntKind.i64 (iv + 1)))))) else some (.inr (((0), (0), (Bool.false))))))
noncomputable def y4i (a : Int) (yf : List (List Int)) (s : Int) : Option (Int × Int × Bool) :=
  loopO (fun s => y2k a yf s) s
noncomputable def y06 (a : Int) (m_lv : yb) (yg : List Int) (yf : List (List Int)) : Option (Int × Int × Bool) :=
  (y4i a yf (0))
noncomputable def y0e (a : Int) : Option (Int × Int × Bool) :=
  some (((0), (0), (Bool.false)))
noncomputable def y0c (m_lv : yb) (yg : List Int) (yf : List (List Int)) : Option (yb × (List Int) × (List (List Int))) :=
  ((y1f yf).bind fun y1 => (bif (Decidable.decide (0 + List.length yg ≤ 1048576)) then some (((m_lv), (yg), (y1))) else none))
noncomputable def y0g  : Option (Unit) :=
  some ((()))
noncomputable def y2t (rv : T_api_Reply) (m_lv : yb) (yg : List Int) (yf : List (List Int)) (t58 : Int) (t59 : Int) : Option ((Int) ⊕ (Bool)) :=
  (bif (Decidable.decide (t59 < t58)) then ((y06 (IntKind.wrap IntKind.i64 (T_api_Reply.Addr rv + t59)) m_lv yg yf).bind fun y0 => (bif (Prod.snd (Prod.snd y0)) then some (.inr ((Bool.false))) else some (.inl (IntKind.wrap IntKind.i64 (t59 + 1))))) else some (.inr ((Bool.true))))
noncomputable def y2u (rv : T_api_Reply) (m_lv : yb) (yg : List Int) (yf : List (List Int)) (t58 : Int) (s : Int) : Option (Bool) :=
  loopO (fun s => y2t rv m_lv yg yf t58 s) s
noncomputable def y0t (c : ye) (rv : T_api_Reply) (m_lv : yb) (yg : List Int) (yf : List (List Int)) : Option (Bool) :=
  (bif (ye.Kind c == 5) then ((y00 (ye.Size c) (ye.Align c)).bind fun y0 => (bif (!(T_api_Reply.Err rv == 0 && (T_api_Reply.Addr rv == T_api_Reply.Addr rv && (T_api_Reply.Size rv == y0 && (T_api_Reply.Value rv == 0 && (ya.Blocks (T_api_Reply.Stats rv) == 0 && (ya.Asked (T_api_Reply.Stats rv) == 0 && (ya.Words (T_api_Reply.Stats rv) == 0 && (ya.Kept (T_api_Reply.Stats rv) == 0 && (ya.Open (T_api_Reply.Stats rv) == 0 && (ya.Mapped (T_api_Reply.Stats rv) == 0 && (ya.Used (T_api_Reply.Stats rv) == 0 && Bool.true)))))) && Bool.true)))))) then some ((Bool.false)) else (bif (y0 == 0) then some ((Bool.false)) else (bif (!ye.Align c == 0) then (bif (Int.tmod (T_api_Reply.Addr rv) (ye.Align c) != 0) then some ((Bool.false)) else ((yl m_lv (T_api_Reply.Addr rv)).bind fun y1 => (bif (!Prod.snd (Prod.snd y1)) then some ((Bool.false)) else ((yi m_lv).bind fun y2 => (bif (inR (IntKind.wrap IntKind.i64 (T_api_Reply.Addr rv - y2)) (List.length yg)) then ((yq m_lv).bind fun y3 => (bif (Decidable.decide (y0 > IntKind.wrap IntKind.i64 (y3 - T_api_Reply.Addr rv))) then some ((Bool.false)) else (y2u rv m_lv yg yf (y0) (0)))) else none))))) else none)))) else ((y00 (ye.Size c) 1).bind fun y4 => (bif (!(T_api_Reply.Err rv == 0 && (T_api_Reply.Addr rv == T_api_Reply.Addr rv && (T_api_Reply.Size rv == y4 && (T_api_Reply.Value rv == 0 && (ya.Blocks (T_api_Reply.Stats rv) == 0 && (ya.Asked (T_api_Reply.Stats rv) == 0 && (ya.Words (T_api_Reply.Stats rv) == 0 && (ya.Kept (T_api_Reply.Stats rv) == 0 && (ya.Open (T_api_Reply.Stats rv) == 0 && (ya.Mapped (T_api_Reply.Stats rv) == 0 && (ya.Used (T_api_Reply.Stats rv) == 0 && Bool.true)))))) && Bool.true)))))) then some ((Bool.false)) else (bif (y4 == 0) then some ((Bool.false)) else (bif (Int.tmod (T_api_Reply.Addr rv) 1 != 0) then some ((Bool.false)) else ((yl m_lv (T_api_Reply.Addr rv)).bind fun y5 => (bif (!Prod.snd (Prod.snd y5)) then some ((Bool.false)) else ((yi m_lv).bind fun y6 => (bif (inR (IntKind.wrap IntKind.i64 (T_api_Reply.Addr rv - y6)) (List.length yg)) then ((yq m_lv).bind fun y7 => (bif (Decidable.decide (y4 > IntKind.wrap IntKind.i64 (y7 - T_api_Reply.Addr rv))) then some ((Bool.false)) else (y2u rv m_lv yg yf (y4) (0)))) else none)))))))))
noncomputable def y2q (rv : T_api_Reply) (m_lv : yb) (w : List (List Int)) (t35 : Int) (y08 : List Int) : Option ((Int × (List Int)) ⊕ (Bool × (List (List Int)) × (List Int))) :=
  (bif (Decidable.decide (t35 < T_api_Reply.Size rv)) then ((yl m_lv (IntKind.wrap IntKind.i64 (T_api_Reply.Addr rv + t35))).bind fun y0 => (bif (!Prod.snd (Prod.snd y0)) then none else ((yi m_lv).bind fun y1 => (bif (inR (IntKind.wrap IntKind.i64 (IntKind.wrap IntKind.i64 (T_api_Reply.Addr rv + t35) - y1)) (List.length y08)) then (bif (inR (offs (IntKind.wrap IntKind.i64 (IntKind.wrap IntKind.i64 (T_api_Reply.Addr rv + t35) - y1)) 0) (List.length y08)) then some (.inl ((IntKind.wrap IntKind.i64 (t35 + 1)), (List.set y08 (Int.toNat (offs (IntKind.wrap IntKind.i64 (IntKind.wrap IntKind.i64 (T_api_Reply.Addr rv + t35) - y1)) 0)) 0))) else none) else none)))) else some (.inr (((Bool.true), (w), (y08)))))
noncomputable def y3i (rv : T_api_Reply) (m_lv : yb) (w : List (List Int)) (s : Int × (List Int)) : Option (Bool × (List (List Int)) × (List Int)) :=
  loopO (fun s => y2q rv m_lv w s.1 s.2) s
noncomputable def y04 (c : ye) (rv : T_api_Reply) (m_lv : yb) (yg : List Int) (yf : List (List Int)) : Option (Bool × (List (List Int)) × (List Int)) :=
  (bif (T_api_Reply.Err rv == 6 && (T_api_Reply.Addr rv == 0 && (T_api_Reply.Size rv == 0 && (T_api_Reply.Value rv == 0 && (ya.Blocks (T_api_Reply.Stats rv) == 0 && (ya.Asked (T_api_Reply.Stats rv) == 0 && (ya.Words (T_api_Reply.Stats rv) == 0 && (ya.Kept (T_api_Reply.Stats rv) == 0 && (ya.Open (T_api_Reply.Stats rv) == 0 && (ya.Mapped (T_api_Reply.Stats rv) == 0 && (ya.Used (T_api_Reply.Stats rv) == 0 && Bool.true)))))) && Bool.true))))) then some (((Bool.true), (yf), (yg))) else ((y0t c rv m_lv yg yf).bind fun y0 => (bif (!y0) then some (((Bool.false), (yf), (yg))) else ((y02 (T_api_Reply.Addr rv) (yj.mk (ye.Size c) (T_api_Reply.Size rv)) yf).bind fun y1 => (bif (ye.Kind c == 3) then (y3i rv m_lv (Prod.snd y1) ((0), (yg))) else some (((Bool.true), (Prod.snd y1), (yg))))))))
noncomputable def y2s (c : ye) (rv : T_api_Reply) (m_lv : yb) (t68 : Int) (w : List (List Int)) (t69 : Int) (y08 : List Int) : Option ((Int × (List Int)) ⊕ (Bool × (List (List Int)) × (List Int))) :=
  (bif (Decidable.decide (t69 < t68)) then ((yl m_lv (IntKind.wrap IntKind.i64 (T_api_Reply.Addr rv + t69))).bind fun y0 => (bif (!Prod.snd (Prod.snd y0)) then ((yp (IntKind.wrap IntKind.i64 (ye.Addr c + t69)) m_lv y08 w).bind fun y1 => none) else ((yi m_lv).bind fun y2 => (bif (inR (IntKind.wrap IntKind.i64 (IntKind.wrap IntKind.i64 (T_api_Reply.Addr rv + t69) - y2)) (List.length y08)) then ((yp (IntKind.wrap IntKind.i64 (ye.Addr c + t69)) m_lv y08 w).bind fun y3 => (bif (inR (offs (IntKind.wrap IntKind.i64 (IntKind.wrap IntKind.i64 (T_api_Reply.Addr rv + t69) - y2)) 0) (List.length y08)) then some (.inl ((IntKind.wrap IntKind.i64 (t69 + 1)), (List.set y08 (Int.toNat (offs (IntKind.wrap IntKind.i64 (IntKind.wrap IntKind.i64 (T_api_Reply.Addr rv + t69) - y2)) 0)) y3))) else none)) else none)))) else ((y0a (ye.Addr c) w).bind fun y4 => some (.inr (((Bool.true), (Prod.snd y4), (y08))))))
noncomputable def y3h (c : ye) (rv : T_api_Reply) (m_lv : yb) (t68 : Int) (w : List (List Int)) (s : Int × (List Int)) : Option (Bool × (List (List Int)) × (List Int)) :=
  loopO (fun s => y2s c rv m_lv t68 w s.1 s.2) s
noncomputable def y1d (c : ye) (rv : T_api_Reply) (m_lv : yb) (yg : List Int) (yf : List (List Int)) : Option (Bool × (List (List Int)) × (List Int)) :=
  ((y05 (ye.Addr c) yf).bind fun y5 => (bif (!Prod.snd y5) then ((y01 rv).bind fun y6 => some (((y6), (yf), (yg)))) else ((y00 (ye.Size c) 1).bind fun y7 => (bif (y7 == yj.words (Prod.fst y5)) then (bif (T_api_Reply.Err rv == 0 && (T_api_Reply.Addr rv == ye.Addr c && (T_api_Reply.Size rv == yj.words (Prod.fst y5) && (T_api_Reply.Value rv == 0 && (ya.Blocks (T_api_Reply.Stats rv) == 0 && (ya.Asked (T_api_Reply.Stats rv) == 0 && (ya.Words (T_api_Reply.Stats rv) == 0 && (ya.Kept (T_api_Reply.Stats rv) == 0 && (ya.Open (T_api_Reply.Stats rv) == 0 && (ya.Mapped (T_api_Reply.Stats rv) == 0 && (ya.Used (T_api_Reply.Stats rv) == 0 && Bool.true)))))) && Bool.true))))) then ((y02 (ye.Addr c) (yj.mk (ye.Size c) (yj.words (Prod.fst y5))) yf).bind fun y8 => some (((T_api_Reply.Err rv == 0 && (T_api_Reply.Addr rv == ye.Addr c && (T_api_Reply.Size rv == yj.words (Prod.fst y5) && (T_api_Reply.Value rv == 0 && (ya.Blocks (T_api_Reply.Stats rv) == 0 && (ya.Asked (T_api_Reply.Stats rv) == 0 && (ya.Words (T_api_Reply.Stats rv) == 0 && (ya.Kept (T_api_Reply.Stats rv) == 0 && (ya.Open (T_api_Reply.Stats rv) == 0 && (ya.Mapped (T_api_Reply.Stats rv) == 0 && (ya.Used (T_api_Reply.Stats rv) == 0 && Bool.true)))))) && Bool.true))))), (Prod.snd y8), (yg)))) else some (((T_api_Reply.Err rv == 0 && (T_api_Reply.Addr rv == ye.Addr c && (T_api_Reply.Size rv == yj.words (Prod.fst y5) && (T_api_Reply.Value rv == 0 && (ya.Blocks (T_api_Reply.Stats rv) == 0 && (ya.Asked (T_api_Reply.Stats rv) == 0 && (ya.Words (T_api_Reply.Stats rv) == 0 && (ya.Kept (T_api_Reply.Stats rv) == 0 && (ya.Open (T_api_Reply.Stats rv) == 0 && (ya.Mapped (T_api_Reply.Stats rv) == 0 && (ya.Used (T_api_Reply.Stats rv) == 0 && Bool.true)))))) && Bool.true))))), (yf), (yg)))) else ((y04 c rv m_lv yg yf).bind fun y9 => (bif (!Prod.fst y9) then some (((Bool.false), (Prod.fst (Prod.snd y9)), (Prod.snd (Prod.snd y9)))) else (bif (T_api_Reply.Err rv != 0) then some (((Bool.true), (Prod.fst (Prod.snd y9)), (Prod.snd (Prod.snd y9)))) else (y3h c rv m_lv (if ye.Size c < yj.asked (Prod.fst y5) then ye.Size c else yj.asked (Prod.fst y5)) (Prod.fst (Prod.snd y9)) ((0), (Prod.snd (Prod.snd y9)))))))))))
noncomputable def y1a (c : ye) (rv : T_api_Reply) (m_lv : yb) (yg : List Int) (yf : List (List Int)) : Option (Bool × (List (List Int))) :=
  ((y05 (ye.Addr c) yf).bind fun y4 => (bif (!Prod.snd y4) then (bif (ye.Addr c != 0) then ((y01 rv).bind fun y5 => some (((y5), (yf)))) else (bif (!(T_api_Reply.Err rv == 0 && (T_api_Reply.Addr rv == 0 && (T_api_Reply.Size rv == 0 && (T_api_Reply.Value rv == 0 && (ya.Blocks (T_api_Reply.Stats rv) == 0 && (ya.Asked (T_api_Reply.Stats rv) == 0 && (ya.Words (T_api_Reply.Stats rv) == 0 && (ya.Kept (T_api_Reply.Stats rv) == 0 && (ya.Open (T_api_Reply.Stats rv) == 0 && (ya.Mapped (T_api_Reply.Stats rv) == 0 && (ya.Used (T_api_Reply.Stats rv) == 0 && Bool.true)))))) && Bool.true)))))) then some (((Bool.false), (yf))) else ((y0a (ye.Addr c) yf).bind fun y6 => some (((Bool.true), (Prod.snd y6)))))) else (bif (!(T_api_Reply.Err rv == 0 && (T_api_Reply.Addr rv == 0 && (T_api_Reply.Size rv == 0 && (T_api_Reply.Value rv == 0 && (ya.Blocks (T_api_Reply.Stats rv) == 0 && (ya.Asked (T_api_Reply.Stats rv) == 0 && (ya.Words (T_api_Reply.Stats rv) == 0 && (ya.Kept (T_api_Reply.Stats rv) == 0 && (ya.Open (T_api_Reply.Stats rv) == 0 && (ya.Mapped (T_api_Reply.Stats rv) == 0 && (ya.Used (T_api_Reply.Stats rv) == 0 && Bool.true)))))) && Bool.true)))))) then some (((Bool.false), (yf))) else ((y0a (ye.Addr c) yf).bind fun y7 => some (((Bool.true), (Prod.snd y7)))))))
noncomputable def y1e (c : ye) (rv : T_api_Reply) (m_lv : yb) (yg : List Int) (yf : List (List Int)) : Option (Bool) :=
  ((y05 (ye.Addr c) yf).bind fun y2 => (bif (!Prod.snd y2) then ((y01 rv).bind fun y3 => some ((y3))) else some ((T_api_Reply.Err rv == 0 && (T_api_Reply.Addr rv == 0 && (T_api_Reply.Size rv == yj.words (Prod.fst y2) && (T_api_Reply.Value rv == 0 && (ya.Blocks (T_api_Reply.Stats rv) == 0 && (ya.Asked (T_api_Reply.Stats rv) == 0 && (ya.Words (T_api_Reply.Stats rv) == 0 && (ya.Kept (T_api_Reply.Stats rv) == 0 && (ya.Open (T_api_Reply.Stats rv) == 0 && (ya.Mapped (T_api_Reply.Stats rv) == 0 && (ya.Used (T_api_Reply.Stats rv) == 0 && Bool.true)))))) && Bool.true))))))))
noncomputable def y0z (rv : T_api_Reply) (m_lv : yb) (yg : List Int) (yf : List (List Int)) : Option (Bool) :=
  ((y0s (yj.mk 0 0) yf).bind fun y0 => (bif (!(T_api_Reply.Err rv == 0 && (T_api_Reply.Addr rv == 0 && (T_api_Reply.Size rv == 0 && (T_api_Reply.Value rv == 0 && (ya.Blocks (T_api_Reply.Stats rv) == ya.Blocks (T_api_Reply.Stats rv) && (ya.Asked (T_api_Reply.Stats rv) == ya.Asked (T_api_Reply.Stats rv) && (ya.Words (T_api_Reply.Stats rv) == ya.Words (T_api_Reply.Stats rv) && (ya.Kept (T_api_Reply.Stats rv) == ya.Kept (T_api_Reply.Stats rv) && (ya.Open (T_api_Reply.Stats rv) == ya.Open (T_api_Reply.Stats rv) && (ya.Mapped (T_api_Reply.Stats rv) == ya.Mapped (T_api_Reply.Stats rv) && (ya.Used (T_api_Reply.Stats rv) == ya.Used (T_api_Reply.Stats rv) && Bool.true)))))) && Bool.true)))))) then some ((Bool.false)) else ((y1j (T_api_Reply.Stats rv)).bind fun y1 => (bif (!y1) then some ((Bool.false)) else ((y0r m_lv).bind fun y2 => (bif (Decidable.decide (ya.Mapped (T_api_Reply.Stats rv) > yc.Pages y2)) then some ((Bool.false)) else ((yn yf).bind fun y3 => (bif (ya.Blocks (T_api_Reply.Stats rv) == y3) then (bif (ya.Asked (T_api_Reply.Stats rv) == yj.asked y0) then some ((ya.Words (T_api_Reply.Stats rv) == yj.words y0)) else some ((Bool.false))) else some ((Bool.false))))))))))
noncomputable def y1c (c : ye) (rv : T_api_Reply) (m_lv : yb) (yg : List Int) (yf : List (List Int)) : Option (Bool × (List Int)) :=
  ((y06 (ye.Addr c) m_lv yg yf).bind fun y0 => (bif (!Prod.snd (Prod.snd y0)) then ((y01 rv).bind fun y1 => some (((y1), (yg)))) else (bif (ye.Kind c == 11) then ((yp (ye.Addr c) m_lv yg yf).bind fun y2 => some (((T_api_Reply.Err rv == 0 && (T_api_Reply.Addr rv == 0 && (T_api_Reply.Size rv == 0 && (T_api_Reply.Value rv == y2 && (ya.Blocks (T_api_Reply.Stats rv) == 0 && (ya.Asked (T_api_Reply.Stats rv) == 0 && (ya.Words (T_api_Reply.Stats rv) == 0 && (ya.Kept (T_api_Reply.Stats rv) == 0 && (ya.Open (T_api_Reply.Stats rv) == 0 && (ya.Mapped (T_api_Reply.Stats rv) == 0 && (ya.Used (T_api_Reply.Stats rv) == 0 && Bool.true)))))) && Bool.true))))), (yg)))) else (bif (!(T_api_Reply.Err rv == 0 && (T_api_Reply.Addr rv == 0 && (T_api_Reply.Size rv == 0 && (T_api_Reply.Value rv == 0 && (ya.Blocks (T_api_Reply.Stats rv) == 0 && (ya.Asked (T_api_Reply.Stats rv) == 0 && (ya.Words (T_api_Reply.Stats rv) == 0 && (ya.Kept (T_api_Reply.Stats rv) == 0 && (ya.Open (T_api_Reply.Stats rv) == 0 && (ya.Mapped (T_api_Reply.Stats rv) == 0 && (ya.Used (T_api_Reply.Stats rv) == 0 && Bool.true)))))) && Bool.true)))))) then some (((Bool.false), (yg))) else ((yl m_lv (ye.Addr c)).bind fun y3 => (bif (!Prod.snd (Prod.snd y3)) then none else ((yi m_lv).bind fun y4 => (bif (inR (IntKind.wrap IntKind.i64 (ye.Addr c - y4)) (List.length yg)) then (bif (inR (offs (IntKind.wrap IntKind.i64 (ye.Addr c - y4)) 0) (List.length yg)) then some (((Bool.true), (List.set yg (Int.toNat (offs (IntKind.wrap IntKind.i64 (ye.Addr c - y4)) 0)) (ye.Value c)))) else none) else none))))))))
noncomputable def yo (c : ye) (rv : T_api_Reply) (m_lv : yb) (yg : List Int) (yf : List (List Int)) : Option (Bool × (List (List Int)) × (List Int)) :=
  (bif (T_api_Reply.Err rv == 8 && (T_api_Reply.Addr rv == 0 && (T_api_Reply.Size rv == 0 && (T_api_Reply.Value rv == 0 && (ya.Blocks (T_api_Reply.Stats rv) == 0 && (ya.Asked (T_api_Reply.Stats rv) == 0 && (ya.Words (T_api_Reply.Stats rv) == 0 && (ya.Kept (T_api_Reply.Stats rv) == 0 && (ya.Open (T_api_Reply.Stats rv) == 0 && (ya.Mapped (T_api_Reply.Stats rv) == 0 && (ya.Used (T_api_Reply.Stats rv) == 0 && Bool.true)))))) && Bool.true))))) then some (((Bool.true), (yf), (yg))) else ((y1b c).bind fun y0 => (bif (y0 != 0) then some (((T_api_Reply.Err rv == y0 && (T_api_Reply.Addr rv == 0 && (T_api_Reply.Size rv == 0 && (T_api_Reply.Value rv == 0 && (ya.Blocks (T_api_Reply.Stats rv) == 0 && (ya.Asked (T_api_Reply.Stats rv) == 0 && (ya.Words (T_api_Reply.Stats rv) == 0 && (ya.Kept (T_api_Reply.Stats rv) == 0 && (ya.Open (T_api_Reply.Stats rv) == 0 && (ya.Mapped (T_api_Reply.Stats rv) == 0 && (ya.Used (T_api_Reply.Stats rv) == 0 && Bool.true)))))) && Bool.true))))), (yf), (yg))) else (bif (ye.Kind c == 1) then ((y04 c rv m_lv yg yf).bind fun y1 => some (((Prod.fst y1), (Prod.fst (Prod.snd y1)), (Prod.snd (Prod.snd y1))))) else (bif (ye.Kind c == 3) then ((y04 c rv m_lv yg yf).bind fun y2 => some (((Prod.fst y2), (Prod.fst (Prod.snd y2)), (Prod.snd (Prod.snd y2))))) else (bif (ye.Kind c == 5) then ((y04 c rv m_lv yg yf).bind fun y3 => some (((Prod.fst y3), (Prod.fst (Prod.snd y3)), (Prod.snd (Prod.snd y3))))) else (bif (ye.Kind c == 4) then (bif (ye.Addr c == 0) then ((y04 c rv m_lv yg yf).bind fun y4 => some (((Prod.fst y4), (Prod.fst (Prod.snd y4)), (Prod.snd (Prod.snd y4))))) else ((y1d c rv m_lv yg yf).bind fun y5 => some (((Prod.fst y5), (Prod.fst (Prod.snd y5)), (Prod.snd (Prod.snd y5)))))) else (bif (ye.Kind c == 2) then ((y1a c rv m_lv yg yf).bind fun y6 => some (((Prod.fst y6), (Prod.snd y6), (yg)))) else (bif (ye.Kind c == 6) then ((y1e c rv m_lv yg yf).bind fun y7 => some (((y7), (yf), (yg)))) else (bif (ye.Kind c == 7) then some (((T_api_Reply.Err rv == 0 && (T_api_Reply.Addr rv == 0 && (T_api_Reply.Size rv == 0 && (T_api_Reply.Value rv == 0 && (ya.Blocks (T_api_Reply.Stats rv) == 0 && (ya.Asked (T_api_Reply.Stats rv) == 0 && (ya.Words (T_api_Reply.Stats rv) == 0 && (ya.Kept (T_api_Reply.Stats rv) == 0 && (ya.Open (T_api_Reply.Stats rv) == 0 && (ya.Mapped (T_api_Reply.Stats rv) == 0 && (ya.Used (T_api_Reply.Stats rv) == 0 && Bool.true)))))) && Bool.true))))), (yf), (yg))) else (bif (ye.Kind c == 9) then some (((T_api_Reply.Err rv == 0 && (T_api_Reply.Addr rv == 0 && (T_api_Reply.Size rv == 0 && (T_api_Reply.Value rv == 0 && (ya.Blocks (T_api_Reply.Stats rv) == 0 && (ya.Asked (T_api_Reply.Stats rv) == 0 && (ya.Words (T_api_Reply.Stats rv) == 0 && (ya.Kept (T_api_Reply.Stats rv) == 0 && (ya.Open (T_api_Reply.Stats rv) == 0 && (ya.Mapped (T_api_Reply.Stats rv) == 0 && (ya.Used (T_api_Reply.Stats rv) == 0 && Bool.true)))))) && Bool.true))))), (yf), (yg))) else (bif (ye.Kind c == 8) then (bif (T_api_Reply.Err rv == 0 && (T_api_Reply.Addr rv == 0 && (T_api_Reply.Size rv == T_api_Reply.Size rv && (T_api_Reply.Value rv == 0 && (ya.Blocks (T_api_Reply.Stats rv) == 0 && (ya.Asked (T_api_Reply.Stats rv) == 0 && (ya.Words (T_api_Reply.Stats rv) == 0 && (ya.Kept (T_api_Reply.Stats rv) == 0 && (ya.Open (T_api_Reply.Stats rv) == 0 && (ya.Mapped (T_api_Reply.Stats rv) == 0 && (ya.Used (T_api_Reply.Stats rv) == 0 && Bool.true)))))) && Bool.true))))) then (bif (Decidable.decide (T_api_Reply.Size rv ≥ 0)) then ((y0r m_lv).bind fun y8 => some (((Decidable.decide (T_api_Reply.Size rv ≤ yc.Pages y8)), (yf), (yg)))) else some (((Bool.false), (yf), (yg)))) else some (((Bool.false), (yf), (yg)))) else (bif (ye.Kind c == 10) then ((y0z rv m_lv yg yf).bind fun y9 => some (((y9), (yf), (yg)))) else ((y1c c rv m_lv yg yf).bind fun y10 => some (((Prod.fst y10), (yf), (Prod.snd y10)))))))))))))))))
noncomputable def yx (c : ye) (rv : T_api_Reply) : Option (Bool) :=
  some ((Bool.false))
attribute [local irreducible] Loop ex exF contK roundK retK at_ bodyOf mkEnv exFW retW
theorem y6s : SpecOK Try.prog elTT 10 (y8r y1i) := by
  refine spec_of_exFW (cfg := (y6h y09 yq yi)) (yr rfl rfl rfl) (yk y5s (yk (inlS_ok (cfg := cfgB) (yr rfl rfl rfl) (nosig rfl) (by kernel_rfl) (by kernel_rfl) (by kernel_rfl)) (yk y69 (yk y2j yu)))) (pre := []) (wk := wk_model_New) (fn := Try.f10) (by kernel_rfl) (by kernel_rfl) (by kernel_rfl) ?_
  intro args H K h
  change y4g y1i args H K at h
  unfold y4g at h
  repeat first | (obtain ⟨_, h⟩ := h) | replace h := Des.el h
  subst_vars
  refine Eq.mpr (yab y09 yq yi _ K) ?_
  unfold y1i at h
  revert h
  exact bind_So fun y0 => br_So (fun h => h) (bind_So fun y1 => bind_So fun y2 => req_So (fun h => h))
theorem y8m : SpecOK Try.prog elTT 77 (y4x y00) := by
  refine spec_of_exF (cfg := (y8s y1u)) (yr rfl rfl rfl) (yk yap yu) (fn := Try.f77) (by kernel_rfl) (by kernel_rfl) (by kernel_rfl) ?_
  intro args H K h
  change y5c y00 args H K at h
  unfold y5c at h
  repeat first | (obtain ⟨_, h⟩ := h) | replace h := Des.el h
  subst_vars
  refine Eq.mpr (yb7 y1u _ _ K) ?_
  unfold y00 at h
  revert h
  exact br_So (fun h => h) (bind_So fun y0 => fun h => h)
theorem y3p : SpecOK Try.prog elTT 76 (y31 y01) := by
  refine spec_of_exF (cfg := y89) (yr rfl rfl rfl) yu (fn := Try.f76) (by kernel_rfl) (by kernel_rfl) (by kernel_rfl) ?_
  intro args H K h
  change y59 y01 args H K at h
  unfold y59 at h
  repeat first | (obtain ⟨_, h⟩ := h) | replace h := Des.el h
  subst_vars
  refine Eq.mpr (yb2 _ K) ?_
  unfold y01 at h
  revert h
  exact fun h => h
theorem y6c : SpecOK Try.prog elTT 20 (y3e yp) := by
  refine spec_of_exF (cfg := (y6q yi yl)) (yr rfl rfl rfl) (yk (inlSR_ok (ro := (⟨true, fun _ => false, fun i => Nat.beq i 0 || Nat.beq i 1⟩ : RO) ) (inlS_ok (cfg := { cfgB with sigs := (sigC 86 (y1y yl) (sigC 23 (y1h yi) sigN)), plan := fun r => match r with | 4 => some (List.range 13, 0) | _ => none }) (yr rfl rfl rfl) (yk y2v (yk y2j yu)) (by kernel_rfl) (by kernel_rfl) (by kernel_rfl))) yu) (fn := Try.f20) (by kernel_rfl) (by kernel_rfl) (by kernel_rfl) ?_
  intro args H K h
  change y5n yp args H K at h
  unfold y5n at h
  repeat first | (obtain ⟨_, h⟩ := h) | replace h := Des.el h
  subst_vars
  refine Eq.mpr (y8w yi yl _ _ _ _ K) ?_
  unfold yp at h
  revert h
  exact bind_So fun y0 => br_So (fun h => h) (bind_So fun y1 => req_So (req_So (fun h => h)))
theorem y3w : SpecOK Try.prog elTT 20 (y3d yy) := by
  refine spec_of_exF (cfg := (y7q yi yl)) (yr rfl rfl rfl) (yk (inlSR_ok (ro := (⟨true, fun _ => false, fun i => Nat.beq i 0 || Nat.beq i 1⟩ : RO) ) (inlS_ok (cfg := { cfgB with sigs := (sigC 86 (y1y yl) (sigC 23 (y1h yi) sigN)), plan := fun r => match r with | 4 => some (List.range 13, 0) | _ => none }) (yr rfl rfl rfl) (yk y2v (yk y2j yu)) (by kernel_rfl) (by kernel_rfl) (by kernel_rfl))) yu) (fn := Try.f20) (by kernel_rfl) (by kernel_rfl) (by kernel_rfl) ?_
  intro args H K h
  change y5e yy args H K at h
  unfold y5e at h
  repeat first | (obtain ⟨_, h⟩ := h) | replace h := Des.el h
  subst_vars
  refine Eq.mpr (ybf yi yl _ K) ?_
  unfold yy at h
  revert h
  exact fun h => h
theorem yaw : SpecOK Try.prog elTT 17 (y8c yz) := by
  refine spec_of_exF (cfg := (y84 y0h y0u y0s)) (yr rfl rfl rfl) (yk y42 (yk (altP_ok y62 y4j) yu)) (fn := Try.f17) (by kernel_rfl) (by kernel_rfl) (by kernel_rfl) ?_
  intro args H K h
  change y5p yz args H K at h
  unfold y5p at h
  repeat first | (obtain ⟨_, h⟩ := h) | replace h := Des.el h
  subst_vars
  refine Eq.mpr (yba y0h y0u y0s _ _ _ K) ?_
  unfold yz at h
  revert h
  exact bind_So fun y0 => fun h => h
theorem y9f : SpecOK Try.prog elTT 17 (y7f y0f) := by
  refine spec_of_exF (cfg := (y6n y0h y0u y0s)) (yr rfl rfl rfl) (yk y42 (yk (altP_ok y62 y4j) yu)) (fn := Try.f17) (by kernel_rfl) (by kernel_rfl) (by kernel_rfl) ?_
  intro args H K h
  change y5j y0f args H K at h
  unfold y5j at h
  repeat first | (obtain ⟨_, h⟩ := h) | replace h := Des.el h
  subst_vars
  refine Eq.mpr (y9w y0h y0u y0s  K) ?_
  unfold y0f at h
  revert h
  exact fun h => h
theorem lpok_model_Model_Block_L1 (a : Int) (m_lv : yb) (yg : List Int) (yf : List (List Int)) (iv : Int) (K : V → Heap → Prop) : So (y4i (a) (yf) iv) (fun (x : Int × Int × Bool) => K (.tup [vi (x.1), vi (x.2.1), vb (x.2.2)]) [.rcells (yh m_lv ++ [.ptr 1 0, .row 2]), .rcells [.row 3], .row 0 yg true, .row 70 yf true]) → Loop (y2d yn y0l) (⟨46, 4⟩ : Cx) (at_ (bodyOf Try.f21) [1, 0, 1, 1, 1, 0, 0, 0]) (mkEnv [(0, .ptr 0 0), (1, vi (a)), (7, vi (iv))]) [.rcells (yh m_lv ++ [.ptr 1 0, .row 2]), .rcells [.row 3], .row 0 (yg : List (Int)) Bool.true, .row 70 (yf : List (List Int)) Bool.true] (contK (y2d yn y0l) (⟨46, 4⟩ : Cx) (bodyOf Try.f21) [1, 0, 1, 1, 1, 0, 0] (retK (y2d yn y0l) Try.f21 4 K)) := by
  refine loopK_So (fun (s_ : Int) => (mkEnv [(0, .ptr 0 0), (1, vi (a)), (7, vi ((s_)))])) (fun (s_ : Int) => [.rcells (yh m_lv ++ [.ptr 1 0, .row 2]), .rcells [.row 3], .row 0 (yg : List (Int)) Bool.true, .row 70 (yf : List (List Int)) Bool.true]) (fun (x : Int × Int × Bool) => K (.tup [vi (x.1), vi (x.2.1), vb (x.2.2)]) [.rcells (yh m_lv ++ [.ptr 1 0, .row 2]), .rcells [.row 3], .row 0 yg true, .row 70 yf true]) ?_ iv
  intro s_ J1 h
  clear iv
  revert h; revert s_; intro iv h
  refine Eq.mpr (y9h yn y0l a m_lv yg yf iv K J1) ?_
  have h : So (y2k (a) (yf) iv) _ := h
  unfold y2k at h
  revert h
  exact bind_So fun y0 => br_So (bind_So fun y1 => br_So (fun h => h) (br_So (fun h => h) (fun h => h))) (fun h => h)
theorem y4v : SpecOK Try.prog elTT 21 (y36 y06) := by
  refine spec_of_exF (cfg := (y2d yn y0l)) (yr rfl rfl rfl) (yk y2y (yk y6r yu)) (fn := Try.f21) (by kernel_rfl) (by kernel_rfl) (by kernel_rfl) ?_
  intro args H K h
  change y5g y06 args H K at h
  unfold y5g at h
  repeat first | (obtain ⟨_, h⟩ := h) | replace h := Des.el h
  subst_vars
  refine Eq.mpr (y9z yn y0l _ _ _ _ K) ?_
  unfold y06 at h
  revert h
  exact lpok_model_Model_Block_L1 _ _ _ _ _ K
theorem y5f : SpecOK Try.prog elTT 21 (y3l y0e) := by
  refine spec_of_exF (cfg := (y6o yn y0l)) (yr rfl rfl rfl) (yk y2y (yk y6r yu)) (fn := Try.f21) (by kernel_rfl) (by kernel_rfl) (by kernel_rfl) ?_
  intro args H K h
  change y5u y0e args H K at h
  unfold y5u at h
  repeat first | (obtain ⟨_, h⟩ := h) | replace h := Des.el h
  subst_vars
  refine Eq.mpr (ya9 yn y0l _ K) ?_
  unfold y0e at h
  revert h
  exact fun h => h
theorem y8z : SpecOK Try.prog elTT 26 (y7l y0c) := by
  refine spec_of_exFW (cfg := (y8f y1f)) (yr rfl rfl rfl) (yk y6p yu) (pre := []) (wk := wk_model_Model_Copy) (fn := Try.f26) (by kernel_rfl) (by kernel_rfl) (by kernel_rfl) ?_
  intro args H K h
  change y5o y0c args H K at h
  unfold y5o at h
  repeat first | (obtain ⟨_, h⟩ := h) | replace h := Des.el h
  subst_vars
  refine Eq.mpr (y9j y1f _ _ _ K) ?_
  unfold y0c at h
  revert h
  exact alt_So (bind_So fun y0 => req_So (fun h => h)) (bind_So fun y1 => req_So (fun h => h))
theorem y90 : SpecOK Try.prog elTT 26 (y8u y0g) := by
  refine spec_of_exF (cfg := (y8n y1f)) (yr rfl rfl rfl) (yk y6p yu) (fn := Try.f26) (by kernel_rfl) (by kernel_rfl) (by kernel_rfl) ?_
  intro args H K h
  change y4f y0g args H K at h
  unfold y4f at h
  repeat first | (obtain ⟨_, h⟩ := h) | replace h := Des.el h
  subst_vars
  refine Eq.mpr (y8x y1f  K) ?_
  unfold y0g at h
  revert h
  exact fun h => h
theorem lpok_model_Model_fits_L1 (c : ye) (rv : T_api_Reply) (m_lv : yb) (yg : List Int) (yf : List (List Int)) (t58 : Int) (t59 : Int) (K : V → Heap → Prop) : So (y2u (rv) (m_lv) (yg) (yf) (t58) t59) (fun (x : Bool) => K (vb (x)) [.rcells (yh m_lv ++ [.ptr 1 0, .row 2]), .rcells [.row 3], .row 0 yg true, .row 70 yf true]) → Loop (y1m y00 yi yl yq y0e y06) (⟨74, 4⟩ : Cx) (at_ (bodyOf Try.f73) [1, 1, 1, 1, 1, 0, 1, 0, 0]) (mkEnv [(0, .ptr 0 0), (5, .ptr 4 0), (58, vi (t58)), (59, vi (t59))]) [.rcells (yh m_lv ++ [.ptr 1 0, .row 2]), .rcells [.row 3], .row 0 (yg : List (Int)) Bool.true, .row 70 (yf : List (List Int)) Bool.true, .cells 46 (y0o rv)] (contK (y1m y00 yi yl yq y0e y06) (⟨74, 4⟩ : Cx) (bodyOf Try.f73) [1, 1, 1, 1, 1, 0, 1, 0] (retK (y1m y00 yi yl yq y0e y06) Try.f73 4 K)) := by
  refine loopK_So (fun (s_ : Int) => (mkEnv [(0, .ptr 0 0), (5, .ptr 4 0), (58, vi (t58)), (59, vi ((s_)))])) (fun (s_ : Int) => [.rcells (yh m_lv ++ [.ptr 1 0, .row 2]), .rcells [.row 3], .row 0 (yg : List (Int)) Bool.true, .row 70 (yf : List (List Int)) Bool.true, .cells 46 (y0o rv)]) (fun (x : Bool) => K (vb (x)) [.rcells (yh m_lv ++ [.ptr 1 0, .row 2]), .rcells [.row 3], .row 0 yg true, .row 70 yf true]) ?_ t59
  intro s_ J1 h
  clear t59
  revert h; revert s_; intro t59 h
  refine Eq.mpr (yat y00 yi yl yq y0e y06 c rv m_lv yg yf t58 t59 K J1) ?_
  have h : So (y2t (rv) (m_lv) (yg) (yf) (t58) t59) _ := h
  unfold y2t at h
  revert h
  exact br_So (bind_So fun y0 => br_So (fun h => h) (fun h => h)) (fun h => h)
theorem ybq : SpecOK Try.prog elTT 73 (y7o y0t) := by
  refine spec_of_exF (cfg := (y1m y00 yi yl yq y0e y06)) (yr rfl rfl rfl) (yk y8m (yk (inlSR_ok (ro := (⟨true, fun _ => false, fun i => Nat.beq i 0 || Nat.beq i 1⟩ : RO) ) (inlS_ok (cfg := { cfgB with sigs := (sigC 86 (y1y yl) (sigC 23 (y1h yi) sigN)), plan := fun r => match r with | 4 => some (List.range 13, 0) | _ => none }) (yr rfl rfl rfl) (yk y2v (yk y2j yu)) (by kernel_rfl) (by kernel_rfl) (by kernel_rfl))) (yk y69 (yk (altNil_ok y4v y5f) yu)))) (fn := Try.f73) (by kernel_rfl) (by kernel_rfl) (by kernel_rfl) ?_
  intro args H K h
  change y4o y0t args H K at h
  unfold y4o at h
  repeat first | (obtain ⟨_, h⟩ := h) | replace h := Des.el h
  subst_vars
  refine Eq.mpr (yav y00 yi yl yq y0e y06 _ _ _ _ _ K) ?_
  unfold y0t at h
  revert h
  exact br_So (bind_So fun y0 => br_So (fun h => h) (br_So (fun h => h) (req_So (br_So (fun h => h) (bind_So fun y1 => br_So (fun h => h) (bind_So fun y2 => req_So (bind_So fun y3 => br_So (fun h => h) (lpok_model_Model_fits_L1 (by first | assumption | exact default) _ _ _ _ _ _ K)))))))) (bind_So fun y4 => br_So (fun h => h) (br_So (fun h => h) (br_So (fun h => h) (bind_So fun y5 => br_So (fun h => h) (bind_So fun y6 => req_So (bind_So fun y7 => br_So (fun h => h) (lpok_model_Model_fits_L1 (by first | assumption | exact default) _ _ _ _ _ _ K)))))))
theorem lpok_model_Model_fresh_L1 (c : ye) (rv : T_api_Reply) (m_lv : yb) (yg : List Int) (yf : List (List Int)) (U : TypeId) (t35 : Int) (y08 : List Int) (w : List (List Int)) (K : V → Heap → Prop) : So (y3i (rv) (m_lv) (w) (t35, y08)) (fun (x : Bool × (List (List Int)) × (List Int)) => K (vb (x.1)) [.rcells (yh m_lv ++ [.ptr 1 0, .row 2]), .cells U [.row 4], .row 0 (x.2.2) false, .dead, .row 70 (x.2.1) false]) → Loop (y2f y0t y02 yi yl) (⟨46, 4⟩ : Cx) (at_ (bodyOf Try.f36) [1, 1, 1, 0, 1, 0, 1, 0, 0]) (mkEnv [(0, .ptr 0 0), (5, .ptr 4 0), (34, vi (T_api_Reply.Size rv)), (35, vi (t35))]) [.rcells (yh m_lv ++ [.ptr 1 0, .row 2]), .cells U [.row 5], .row 0 (y08 : List (Int)) Bool.false, .dead, .cells 46 (y0o rv), .row 70 (w : List (List Int)) Bool.false] (contK (y2f y0t y02 yi yl) (⟨46, 4⟩ : Cx) (bodyOf Try.f36) [1, 1, 1, 0, 1, 0, 1, 0] (retW (y2f y0t y02 yi yl) wk_model_Model_fresh Try.f36 4 K)) := by
  refine loopK_So (fun (s_ : Int × (List Int)) => (mkEnv [(0, .ptr 0 0), (5, .ptr 4 0), (34, vi (T_api_Reply.Size rv)), (35, vi ((s_.1)))])) (fun (s_ : Int × (List Int)) => [.rcells (yh m_lv ++ [.ptr 1 0, .row 2]), .cells U [.row 5], .row 0 ((s_.2) : List (Int)) Bool.false, .dead, .cells 46 (y0o rv), .row 70 (w : List (List Int)) Bool.false]) (fun (x : Bool × (List (List Int)) × (List Int)) => K (vb (x.1)) [.rcells (yh m_lv ++ [.ptr 1 0, .row 2]), .cells U [.row 4], .row 0 (x.2.2) false, .dead, .row 70 (x.2.1) false]) ?_ (t35, y08)
  intro s_ J1 h
  clear t35
  clear y08
  obtain ⟨t35, y08⟩ := s_
  refine Eq.mpr (yam y0t y02 yi yl c rv m_lv yg yf U t35 y08 w K J1) ?_
  have h : So (y2q (rv) (m_lv) (w) t35 y08) _ := h
  unfold y2q at h
  revert h
  exact br_So (bind_So fun y0 => br_So (fun h => h) (bind_So fun y1 => req_So (req_So (fun h => h)))) (fun h => h)
theorem y4s : SpecOK Try.prog elTT 36 (y3g y04) := by
  refine spec_of_exFW (cfg := (y2f y0t y02 yi yl)) (yr rfl rfl rfl) (yk ybq (yk y75 (yk (inlSR_ok (ro := (⟨true, fun _ => false, fun i => Nat.beq i 0 || Nat.beq i 1⟩ : RO) ) (inlS_ok (cfg := { cfgB with sigs := (sigC 86 (y1y yl) (sigC 23 (y1h yi) sigN)), plan := fun r => match r with | 4 => some (List.range 13, 0) | _ => none }) (yr rfl rfl rfl) (yk y2v (yk y2j yu)) (by kernel_rfl) (by kernel_rfl) (by kernel_rfl))) yu))) (pre := []) (wk := wk_model_Model_fresh) (fn := Try.f36) (by kernel_rfl) (by kernel_rfl) (by kernel_rfl) ?_
  intro args H K h
  change y60 y04 args H K at h
  unfold y60 at h
  repeat first | (obtain ⟨_, h⟩ := h) | replace h := Des.el h
  subst_vars
  refine Eq.mpr (ybc y0t y02 yi yl _ _ _ _ _ _ K) ?_
  unfold y04 at h
  revert h
  exact br_So (fun h => h) (bind_So fun y0 => br_So (fun h => h) (bind_So fun y1 => br_So (lpok_model_Model_fresh_L1 (by first | assumption | exact default) _ _ (by first | assumption | exact default) (by first | assumption | exact default) _ _ _ _ K) (fun h => h)))
theorem lpok_model_Model_again_L1 (c : ye) (rv : T_api_Reply) (m_lv : yb) (yg : List Int) (yf : List (List Int)) (U : TypeId) (t68 : Int) (t69 : Int) (y08 : List Int) (w : List (List Int)) (K : V → Heap → Prop) : So (y3h (c) (rv) (m_lv) (t68) (w) (t69, y08)) (fun (x : Bool × (List (List Int)) × (List Int)) => K (vb (x.1)) [.rcells (yh m_lv ++ [.ptr 1 0, .row 2]), .cells U [.row 4], .row 0 (x.2.2) false, .dead, .row 70 (x.2.1) false]) → Loop (y1k y05 y01 y00 y02 y04 yi yl yy yp y0a) (⟨93, 4⟩ : Cx) (at_ (bodyOf Try.f37) [1, 1, 1, 0, 1, 0, 0]) (mkEnv [(0, .ptr 0 0), (4, .ptr 4 0), (5, .ptr 5 0), (68, vi (t68)), (69, vi (t69))]) [.rcells (yh m_lv ++ [.ptr 1 0, .row 2]), .cells U [.row 6], .row 0 (y08 : List (Int)) Bool.false, .dead, .cells 42 (y1g c), .cells 46 (y0o rv), .row 70 (w : List (List Int)) Bool.false] (contK (y1k y05 y01 y00 y02 y04 yi yl yy yp y0a) (⟨93, 4⟩ : Cx) (bodyOf Try.f37) [1, 1, 1, 0, 1, 0] (retW (y1k y05 y01 y00 y02 y04 yi yl yy yp y0a) wk_model_Model_again Try.f37 4 K)) := by
  refine loopK_So (fun (s_ : Int × (List Int)) => (mkEnv [(0, .ptr 0 0), (4, .ptr 4 0), (5, .ptr 5 0), (68, vi (t68)), (69, vi ((s_.1)))])) (fun (s_ : Int × (List Int)) => [.rcells (yh m_lv ++ [.ptr 1 0, .row 2]), .cells U [.row 6], .row 0 ((s_.2) : List (Int)) Bool.false, .dead, .cells 42 (y1g c), .cells 46 (y0o rv), .row 70 (w : List (List Int)) Bool.false]) (fun (x : Bool × (List (List Int)) × (List Int)) => K (vb (x.1)) [.rcells (yh m_lv ++ [.ptr 1 0, .row 2]), .cells U [.row 4], .row 0 (x.2.2) false, .dead, .row 70 (x.2.1) false]) ?_ (t69, y08)
  intro s_ J1 h
  clear t69
  clear y08
  obtain ⟨t69, y08⟩ := s_
  refine Eq.mpr (ya5 y05 y01 y00 y02 y04 yi yl yy yp y0a c rv m_lv yg yf U t68 t69 y08 w K J1) ?_
  have h : So (y2s (c) (rv) (m_lv) (t68) (w) t69 y08) _ := h
  unfold y2s at h
  revert h
  exact br_So (bind_So fun y0 => br_So (bind_So fun y1 => fun h => h) (bind_So fun y2 => req_So (bind_So fun y3 => req_So (fun h => h)))) (bind_So fun y4 => fun h => h)
theorem y7c : SpecOK Try.prog elTT 37 (y5w y1d) := by
  refine spec_of_exFW (cfg := (y1k y05 y01 y00 y02 y04 yi yl yy yp y0a)) (yr rfl rfl rfl) (yk y5d (yk y3p (yk y8m (yk y75 (yk y4s (yk (inlSR_ok (ro := (⟨true, fun _ => false, fun i => Nat.beq i 0 || Nat.beq i 1⟩ : RO) ) (inlS_ok (cfg := { cfgB with sigs := (sigC 86 (y1y yl) (sigC 23 (y1h yi) sigN)), plan := fun r => match r with | 4 => some (List.range 13, 0) | _ => none }) (yr rfl rfl rfl) (yk y2v (yk y2j yu)) (by kernel_rfl) (by kernel_rfl) (by kernel_rfl))) (yk (altNil_ok y6c y3w) (yk y8j yu)))))))) (pre := []) (wk := wk_model_Model_again) (fn := Try.f37) (by kernel_rfl) (by kernel_rfl) (by kernel_rfl) ?_
  intro args H K h
  change y5q y1d args H K at h
  unfold y5q at h
  repeat first | (obtain ⟨_, h⟩ := h) | replace h := Des.el h
  subst_vars
  refine Eq.mpr (yb1 y05 y01 y00 y02 y04 yi yl yy yp y0a _ _ _ _ _ _ K) ?_
  unfold y1d at h
  revert h
  exact alt_So (bind_So fun y0 => br_So (bind_So fun y1 => fun h => h) (bind_So fun y2 => br_So (br_So (bind_So fun y3 => fun h => h) (fun h => h)) (bind_So fun y4 => br_So (fun h => h) (br_So (fun h => h) (lpok_model_Model_again_L1 _ _ _ (by first | assumption | exact default) (by first | assumption | exact default) _ _ _ _ _ K))))) (bind_So fun y5 => br_So (bind_So fun y6 => fun h => h) (bind_So fun y7 => br_So (br_So (bind_So fun y8 => fun h => h) (fun h => h)) (bind_So fun y9 => br_So (fun h => h) (br_So (fun h => h) (lpok_model_Model_again_L1 _ _ _ (by first | assumption | exact default) (by first | assumption | exact default) _ _ _ _ _ K)))))
theorem y8i : SpecOK Try.prog elTT 38 (y5l y1a) := by
  refine spec_of_exFW (cfg := (y7j y05 y01 y0a)) (yr rfl rfl rfl) (yk y5d (yk y3p (yk y8j yu))) (pre := []) (wk := wk_model_Model_free) (fn := Try.f38) (by kernel_rfl) (by kernel_rfl) (by kernel_rfl) ?_
  intro args H K h
  change y47 y1a args H K at h
  unfold y47 at h
  repeat first | (obtain ⟨_, h⟩ := h) | replace h := Des.el h
  subst_vars
  refine Eq.mpr (yb3 y05 y01 y0a _ _ _ _ _ _ K) ?_
  unfold y1a at h
  revert h
  exact alt_So (bind_So fun y0 => br_So (br_So (bind_So fun y1 => fun h => h) (br_So (fun h => h) (bind_So fun y2 => fun h => h))) (br_So (fun h => h) (bind_So fun y3 => fun h => h))) (bind_So fun y4 => br_So (br_So (bind_So fun y5 => fun h => h) (br_So (fun h => h) (bind_So fun y6 => fun h => h))) (br_So (fun h => h) (bind_So fun y7 => fun h => h)))
theorem y6g : SpecOK Try.prog elTT 39 (y4c y1e) := by
  refine spec_of_exF (cfg := (y8b y05 y01)) (yr rfl rfl rfl) (yk y5d (yk y3p yu)) (fn := Try.f39) (by kernel_rfl) (by kernel_rfl) (by kernel_rfl) ?_
  intro args H K h
  change y4d y1e args H K at h
  unfold y4d at h
  repeat first | (obtain ⟨_, h⟩ := h) | replace h := Des.el h
  subst_vars
  refine Eq.mpr (yai y05 y01 _ _ _ _ _ K) ?_
  unfold y1e at h
  revert h
  exact alt_So (bind_So fun y0 => br_So (bind_So fun y1 => fun h => h) (fun h => h)) (bind_So fun y2 => br_So (bind_So fun y3 => fun h => h) (fun h => h))
theorem y7y : SpecOK Try.prog elTT 41 (y4u y0z) := by
  refine spec_of_exF (cfg := (y87 y0m y0u y0s y1j y0r yn)) (yr rfl rfl rfl) (yk y7r (yk (altP_ok y62 y4j) (yk ybe (yk y3v (yk y2y yu))))) (fn := Try.f41) (by kernel_rfl) (by kernel_rfl) (by kernel_rfl) ?_
  intro args H K h
  change y50 y0z args H K at h
  unfold y50 at h
  repeat first | (obtain ⟨_, h⟩ := h) | replace h := Des.el h
  subst_vars
  refine Eq.mpr (y9i y0m y0u y0s y1j y0r yn _ _ _ _ K) ?_
  unfold y0z at h
  revert h
  exact bind_So fun y0 => br_So (fun h => h) (bind_So fun y1 => br_So (fun h => h) (bind_So fun y2 => br_So (fun h => h) (bind_So fun y3 => br_So (br_So (fun h => h) (fun h => h)) (fun h => h))))
theorem y8o : SpecOK Try.prog elTT 42 (y67 y1c) := by
  refine spec_of_exF (cfg := (y6z y0e y06 y01 yy yp yi yl)) (yr rfl rfl rfl) (yk (altNil_ok y4v y5f) (yk y3p (yk (altNil_ok y6c y3w) (yk (inlSR_ok (ro := (⟨true, fun _ => false, fun i => Nat.beq i 0 || Nat.beq i 1⟩ : RO) ) (inlS_ok (cfg := { cfgB with sigs := (sigC 86 (y1y yl) (sigC 23 (y1h yi) sigN)), plan := fun r => match r with | 4 => some (List.range 13, 0) | _ => none }) (yr rfl rfl rfl) (yk y2v (yk y2j yu)) (by kernel_rfl) (by kernel_rfl) (by kernel_rfl))) yu)))) (fn := Try.f42) (by kernel_rfl) (by kernel_rfl) (by kernel_rfl) ?_
  intro args H K h
  change y46 y1c args H K at h
  unfold y46 at h
  repeat first | (obtain ⟨_, h⟩ := h) | replace h := Des.el h
  subst_vars
  refine Eq.mpr (y99 y0e y06 y01 yy yp yi yl _ _ _ _ _ K) ?_
  unfold y1c at h
  revert h
  exact bind_So fun y0 => br_So (bind_So fun y1 => fun h => h) (br_So (bind_So fun y2 => fun h => h) (br_So (fun h => h) (bind_So fun y3 => br_So (fun h => h) (bind_So fun y4 => req_So (req_So (fun h => h))))))
theorem y4e : SpecOK Try.prog elTT 15 (y38 yo) := by
  refine spec_of_exFW (cfg := (y6u y1b y04 y1d y1a y1e y0r y0z y1c)) (yr rfl rfl rfl) (yk y71 (yk y4s (yk y7c (yk y8i (yk y6g (yk y3v (yk y7y (yk y8o yu)))))))) (pre := []) (wk := wk_model_Model_Step) (fn := Try.f15) (by kernel_rfl) (by kernel_rfl) (by kernel_rfl) ?_
  intro args H K h
  change y4p yo args H K at h
  unfold y4p at h
  repeat first | (obtain ⟨_, h⟩ := h) | replace h := Des.el h
  subst_vars
  refine Eq.mpr (y9o y1b y04 y1d y1a y1e y0r y0z y1c _ _ _ _ _ _ K) ?_
  unfold yo at h
  revert h
  exact br_So (fun h => h) (bind_So fun y0 => br_So (fun h => h) (br_So (bind_So fun y1 => fun h => h) (br_So (bind_So fun y2 => fun h => h) (br_So (bind_So fun y3 => fun h => h) (br_So (br_So (bind_So fun y4 => fun h => h) (bind_So fun y5 => fun h => h)) (br_So (bind_So fun y6 => fun h => h) (br_So (bind_So fun y7 => fun h => h) (br_So (fun h => h) (br_So (fun h => h) (br_So (br_So (br_So (bind_So fun y8 => fun h => h) (fun h => h)) (fun h => h)) (br_So (bind_So fun y9 => fun h => h) (bind_So fun y10 => fun h => h))))))))))))
theorem y64 : SpecOK Try.prog elTT 15 (y34 yx) := by
  refine spec_of_exF (cfg := (y7h y1b y04 y1d y1a y1e y0r y0z y1c)) (yr rfl rfl rfl) (yk y71 (yk y4s (yk y7c (yk y8i (yk y6g (yk y3v (yk y7y (yk y8o yu)))))))) (fn := Try.f15) (by kernel_rfl) (by kernel_rfl) (by kernel_rfl) ?_
  intro args H K h
  change y3u yx args H K at h
  unfold y3u at h
  repeat first | (obtain ⟨_, h⟩ := h) | replace h := Des.el h
  subst_vars
  refine Eq.mpr (y9d y1b y04 y1d y1a y1e y0r y0z y1c _ _ K) ?_
  unfold yx at h
  revert h
  exact fun h => h
end Go.Rx
end

section
namespace Go.Rx
open Go.Proofs
theorem offs0 (a : Int) : offs a 0 = a := rfl
theorem scanS {α σ ρ : Type} {step : σ → Option (σ ⊕ ρ)} {l : List α} (st : List α → σ) (I : List α → Prop) (Q : ρ → Prop)
    (go : ∀ A b C, l = A ++ b :: C → I A → (step (st A) = some (.inl (st (A ++ [b]))) ∧ I (A ++ [b])) ∨ ∃ r, step (st A) = some (.inr r) ∧ Q r)
    (fin : I l → ∃ r, step (st l) = some (.inr r) ∧ Q r) (h0 : I []) : ∃ r, loopO step (st []) = some r ∧ Q r := by
  have key : ∀ R A, l = A ++ R → I A → ∃ r, loopO step (st A) = some r ∧ Q r := by
    intro R
    induction R with
    | nil =>
      intro A hA hI
      rw [List.append_nil] at hA
      subst hA
      obtain ⟨r, h1, h2⟩ := fin hI
      exact ⟨r, loopO_end h1, h2⟩
    | cons b R ih =>
      intro A hA hI
      rcases go A b R hA hI with ⟨h1, h2⟩ | ⟨r, h1, h2⟩
      · rw [loopO_go h1]
        exact ih (A ++ [b]) (by simp [hA]) h2
      · exact ⟨r, loopO_end h1, h2⟩
  exact key l [] rfl h0
theorem countS {σ ρ : Type} {step : σ → Option (σ ⊕ ρ)} (st : Nat → σ) (n : Nat) (I : Nat → Prop) (Q : ρ → Prop)
    (go : ∀ i, i < n → I i → (step (st i) = some (.inl (st (i + 1))) ∧ I (i + 1)) ∨ ∃ r, step (st i) = some (.inr r) ∧ Q r)
    (fin : I n → ∃ r, step (st n) = some (.inr r) ∧ Q r) (h0 : I 0) : ∃ r, loopO step (st 0) = some r ∧ Q r := by
  have key : ∀ k i, i + k = n → I i → ∃ r, loopO step (st i) = some r ∧ Q r := by
    intro k
    induction k with
    | zero =>
      intro i hi hI
      have : i = n := by omega
      subst this
      obtain ⟨r, h1, h2⟩ := fin hI
      exact ⟨r, loopO_end h1, h2⟩
    | succ k ih =>
      intro i hi hI
      rcases go i (by omega) hI with ⟨h1, h2⟩ | ⟨r, h1, h2⟩
      · rw [loopO_go h1]
        exact ih (i + 1) (by omega) h2
      · exact ⟨r, loopO_end h1, h2⟩
  exact key n 0 (by omega) h0
theorem mid_get {α : Type} (A : List α) (b : α) (C : List α) (d : α) : (A ++ b :: C).getD A.length d = b := by simp [List.getD]
theorem mid_in {α : Type} (A : List α) (b : α) (C : List α) : inR (A.length : Int) (A ++ b :: C).length = true := inR_nat (by simp)
theorem mid_lt {α : Type} (A : List α) (b : α) (C : List α) : decide ((A.length : Int) < ((A ++ b :: C).length : Int)) = true := decide_eq_true (by simp; omega)
def kk (x : List Int) : Int := x.getD 0 0
def aa (x : List Int) : Int := x.getD 1 0
def ww (x : List Int) : Int := x.getD 2 0
def hasW (x : List Int) (a : Int) : Prop := kk x ≤ a ∧ a < kk x + ww x
instance (x : List Int) (a : Int) : Decidable (hasW x a) := by unfold hasW; infer_instance
structure BOK (lo hi : Int) (x : List Int) : Prop where
  eq : x = [kk x, aa x, ww x]
  lo : lo ≤ kk x
  one : 1 ≤ ww x
  hi : kk x + ww x ≤ hi
  ask : 0 ≤ aa x ∧ aa x ≤ ww x
structure SOK (L : yb) (its : List (List Int)) : Prop where
  lay : LayOK L
  all : ∀ x ∈ its, BOK L.at_10 L.at_11 x
  srt : its.Pairwise fun x y => kk x + ww x ≤ kk y
section
variable {L : yb} {its : List (List Int)}
theorem SOK.big (h : SOK L its) : 128 ≤ L.at_10 ∧ L.at_10 ≤ 20000 ∧ L.at_11 = L.at_10 + L.c.Pages * 32 ∧ 1 ≤ L.c.Pages ∧ L.c.Pages ≤ 256 := by
  have := h.lay.big; have := h.lay.a11; have := h.lay.pages; omega
theorem SOK.parts {A C : List (List Int)} {b : List Int} (h : SOK L its) (e : its = A ++ b :: C) : BOK L.at_10 L.at_11 b ∧ (∀ x ∈ A, kk x + ww x ≤ kk b) ∧ (∀ x ∈ C, kk b + ww b ≤ kk x) := by
  subst e
  have hs := h.srt
  rw [List.pairwise_append] at hs
  exact ⟨h.all b (by simp), fun x hx => hs.2.2 x hx b (by simp), fun x hx => (List.pairwise_cons.1 hs.2.1).1 x hx⟩
theorem SOK.keys {A C : List (List Int)} {b : List Int} (h : SOK L its) (e : its = A ++ b :: C) : (∀ x ∈ A, kk x < kk b) ∧ (∀ x ∈ C, kk b < kk x) := by
  obtain ⟨h1, h2, h3⟩ := h.parts e
  refine ⟨fun x hx => ?_, fun x hx => ?_⟩
  · have := h2 x hx; have := (h.all x (by rw [e]; simp [hx])).one; omega
  · have := h3 x hx; have := h1.one; omega
def splitP (k : Int) (its A C : List (List Int)) : Prop := its = A ++ C ∧ (∀ x ∈ A, kk x < k) ∧ (∀ x ∈ C, k ≤ kk x)
def headIs (k : Int) : List (List Int) → Bool
  | [] => false
  | b :: _ => kk b == k
theorem SOK.split (h : SOK L its) (k : Int) : ∃ A C, splitP k its A C := by
  have hs := h.srt
  have ho : ∀ x ∈ its, 1 ≤ ww x := fun x hx => (h.all x hx).one
  clear h
  induction its with
  | nil => exact ⟨[], [], rfl, by simp, by simp⟩
  | cons b r ih =>
    obtain ⟨h1, h2⟩ := List.pairwise_cons.1 hs
    by_cases hb : kk b < k
    · obtain ⟨A, C, e, hA, hC⟩ := ih h2 (fun x hx => ho x (by simp [hx]))
      refine ⟨b :: A, C, by rw [e]; rfl, fun x hx => ?_, hC⟩
      rcases List.mem_cons.1 hx with rfl | hx
      · exact hb
      · exact hA x hx
    · refine ⟨[], b :: r, rfl, by simp, fun x hx => ?_⟩
      rcases List.mem_cons.1 hx with rfl | hx
      · omega
      · have := h1 x hx; have := ho b (by simp); omega
theorem split_get {k : Int} {A C : List (List Int)} (h : splitP k its A C) {i : Nat} (hi : i < its.length) : (i < A.length → kk (its.getD i (List.replicate 3 0)) < k) ∧ (A.length ≤ i → k ≤ kk (its.getD i (List.replicate 3 0))) := by
  obtain ⟨e, hA, hC⟩ := h
  have hg : its.getD i (List.replicate 3 0) = its[i] := by simp [List.getD, hi]
  rw [hg]
  refine ⟨fun hl => hA _ ?_, fun hl => hC _ ?_⟩
  · have : its[i] = A[i] := by simp only [e]; rw [List.getElem_append_left hl]
    rw [this]; exact List.getElem_mem _
  · have hl2 : i - A.length < C.length := by rw [e, List.length_append] at hi; omega
    have : its[i] = C[i - A.length] := by simp only [e]; rw [List.getElem_append_right hl]
    rw [this]; exact List.getElem_mem _
theorem place_eq {k : Int} {A C : List (List Int)} (h : splitP k its A C) (hn : its.length ≤ 1048576) : y0n k its = some ((A.length : Int), headIs k C) := by
  obtain ⟨r, h1, h2⟩ := loopO_ind (step := fun s => y2w k its s.1 s.2) (fun s => 0 ≤ s.1 ∧ s.1 ≤ (A.length : Int) ∧ (A.length : Int) ≤ s.2 ∧ s.2 ≤ (its.length : Int)) (fun s => (s.2 - s.1).toNat) (fun r => r = ((A.length : Int), headIs k C))
    (fun s hs => by
      obtain ⟨low, high⟩ := s
      obtain ⟨i1, i2, i3, i4⟩ := hs
      simp only at i1 i2 i3 i4
      have hlen : its.length = A.length + C.length := by rw [h.1, List.length_append]
      by_cases hlt : low < high
      · left
        have hmid : IntKind.wrap IntKind.i64 (low + IntKind.wrap IntKind.i64 (Int.tdiv (IntKind.wrap IntKind.i64 (high - low)) 2)) = low + (high - low) / 2 := by
          rw [wrap_id (x := high - low) (by omega) (by omega), Int.tdiv_eq_ediv_of_nonneg (by omega), wrap_id (x := (high - low) / 2) (by omega) (by omega), wrap_id (by omega) (by omega)]
        obtain ⟨mid, hm⟩ : ∃ mid : Nat, low + (high - low) / 2 = (mid : Int) := ⟨(low + (high - low) / 2).toNat, by omega⟩
        have hml : mid < its.length := by omega
        obtain ⟨g1, g2⟩ := split_get h hml
        simp only [y2w, hmid, offs0, hm, inR_nat hml, decide_eq_true hlt, cond_true, Int.toNat_natCast]
        by_cases hk : kk (its.getD mid (List.replicate 3 0)) < k
        · have hmA : mid < A.length := by
            rcases Nat.lt_or_ge mid A.length with h | h
            · exact h
            · have := g2 h; omega
          refine ⟨((mid : Int) + 1, high), ?_, ⟨by simp only; omega, by simp only; omega, by simp only; omega, by simp only; omega⟩, by simp only; omega⟩
          rw [decide_eq_true (show List.getD (List.getD its mid (List.replicate 3 0)) 0 0 < k from hk), cond_true, wrap_id (by omega) (by omega)]
        · have hmA : A.length ≤ mid := by
            rcases Nat.lt_or_ge mid A.length with h | h
            · exact absurd (g1 h) hk
            · exact h
          refine ⟨(low, (mid : Int)), ?_, ⟨by simp only; omega, by simp only; omega, by simp only; omega, by simp only; omega⟩, by simp only; omega⟩
          rw [decide_eq_false (show ¬ List.getD (List.getD its mid (List.replicate 3 0)) 0 0 < k from hk), cond_false]
      · right
        have hl : low = (A.length : Int) := by omega
        subst hl
        refine ⟨_, ?_, rfl⟩
        simp only [y2w, decide_eq_false hlt, cond_false, offs0, Int.toNat_natCast]
        cases C with
        | nil => rw [decide_eq_false (by simp at hlen; omega)]; rfl
        | cons b C =>
          have e := h.1
          rw [decide_eq_true (by simp at hlen; omega), cond_true, e, mid_in, cond_true, cond_true, mid_get]; rfl)
    ((0 : Int), (its.length : Int)) ⟨by simp, by simp, by simp only; rw [h.1, List.length_append]; omega, by simp⟩
  unfold y0n y40
  rw [h1, h2]
theorem Get_eq {k : Int} {A C : List (List Int)} (h : splitP k its A C) (hn : its.length ≤ 1048576) : y05 k its = some (match C with | [] => (⟨0, 0⟩, false) | b :: _ => if kk b = k then (⟨aa b, ww b⟩, true) else (⟨0, 0⟩, false)) := by
  unfold y05
  rw [place_eq h hn, Option.bind_some]
  cases C with
  | nil => rfl
  | cons b C =>
    by_cases hb : kk b = k
    · simp only [headIs, hb, beq_self_eq_true, Bool.not_true, cond_false, if_true]
      rw [h.1, offs0, mid_in, cond_true, cond_true, Int.toNat_natCast, mid_get]; rfl
    · have : headIs k (b :: C) = false := by simpa [headIs] using hb
      simp only [this, hb, Bool.not_false, cond_true, if_false]
theorem Cut_eq {k : Int} {A C : List (List Int)} (h : splitP k its A C) (hn : its.length ≤ 1048576) : y0a k its = some (match C with | [] => (false, its) | b :: D => if kk b = k then (true, A ++ D) else (false, its)) := by
  unfold y0a
  rw [place_eq h hn, Option.bind_some]
  cases C with
  | nil => rfl
  | cons b C =>
    have hlen : its.length = A.length + (C.length + 1) := by rw [h.1, List.length_append]; rfl
    by_cases hb : kk b = k
    · simp only [headIs, hb, beq_self_eq_true, Bool.not_true, cond_false, if_true]
      have w : IntKind.wrap IntKind.i64 ((A.length : Int) + 1) = ((A.length + 1 : Nat) : Int) := wrap_succ (by omega)
      rw [w, Int.toNat_natCast, Int.toNat_natCast]
      have e1 : List.take A.length its = A := by rw [h.1]; simp
      have e2 : List.drop (A.length + 1) its = C := by rw [h.1, ← List.drop_drop]; simp
      rw [e1, e2]
      have e3 : List.take (its.length - (A.length + 1)) C = C := by rw [List.take_of_length_le]; omega
      rw [e3, decide_eq_true (by omega), decide_eq_true (by omega), decide_eq_true (by omega), decide_eq_true (by omega), decide_eq_true (by omega)]; rfl
    · have : headIs k (b :: C) = false := by simpa [headIs] using hb
      simp only [this, hb, Bool.not_false, cond_true, if_false]
theorem shove (A C : List (List Int)) (z : List Int) : List.take (A.length + 1) ((A ++ C) ++ [z]) ++ (List.take (min ((A ++ C ++ [z]).length - (A.length + 1)) ((List.take ((A ++ C ++ [z]).length - A.length) (List.drop A.length (A ++ C ++ [z]))).length))
    (List.take ((A ++ C ++ [z]).length - A.length) (List.drop A.length (A ++ C ++ [z]))) ++ List.drop (A.length + 1 + min ((A ++ C ++ [z]).length - (A.length + 1)) ((List.take ((A ++ C ++ [z]).length - A.length) (List.drop A.length (A ++ C ++ [z]))).length)) (A ++ C ++ [z]))
    = A ++ ((C ++ [z]).take 1 ++ C) := by
  have d : List.drop A.length (A ++ C ++ [z]) = C ++ [z] := by rw [List.append_assoc]; simp
  have l : (A ++ C ++ [z]).length = A.length + (C.length + 1) := by simp [Nat.add_assoc]
  rw [d, l, show A.length + (C.length + 1) - A.length = C.length + 1 by omega, show A.length + (C.length + 1) - (A.length + 1) = C.length by omega]
  have t : List.take (C.length + 1) (C ++ [z]) = C ++ [z] := List.take_of_length_le (by simp)
  rw [t, show (C ++ [z]).length = C.length + 1 by simp, Nat.min_eq_left (by omega), show List.take C.length (C ++ [z]) = C by simp]
  rw [show List.drop (A.length + 1 + C.length) (A ++ C ++ [z]) = [] from List.drop_eq_nil_of_le (by rw [l]; omega), List.append_nil]
  rw [List.append_assoc A C [z], List.take_append, List.take_of_length_le (show A.length ≤ A.length + 1 by omega), show A.length + 1 - A.length = 1 by omega, List.append_assoc]
theorem Put_eq {k : Int} {A C : List (List Int)} (v : yj) (h : splitP k its A C) (hn : its.length + 1 ≤ 1048576) : y02 k v its = some (match C with | [] => (true, A ++ [k, v.asked, v.words] :: C) | b :: D => if kk b = k then (false, A ++ [k, v.asked, v.words] :: D) else (true, A ++ [k, v.asked, v.words] :: C)) := by
  unfold y02
  rw [place_eq h (by omega), Option.bind_some]
  have hlen : its.length = A.length + C.length := by rw [h.1, List.length_append]
  by_cases hh : headIs k C = true
  · cases C with
    | nil => cases hh
    | cons b D =>
      have hb : kk b = k := by simpa [headIs] using hh
      simp only [hh, cond_true, offs0, Int.toNat_natCast]
      rw [h.1, mid_in, cond_true, cond_true, mid_get]
      simp only [hb, if_true]
      have : List.getD b 0 0 = k := hb
      rw [this, List.set_append_right _ _ (by simp)]
      simp
  · have hf : headIs k C = false := by simpa using hh
    simp only [hf, cond_false, offs0]
    have w : IntKind.wrap IntKind.i64 ((A.length : Int) + 1) = ((A.length + 1 : Nat) : Int) := wrap_succ (by omega)
    have l1 : (its ++ [[(0 : Int), 0, 0]]).length = A.length + C.length + 1 := by simp [hlen]
    rw [w]
    simp only [Int.toNat_natCast]
    rw [decide_eq_true (show its.length + 1 ≤ 1048576 by omega), decide_eq_true (show 0 ≤ ((A.length + 1 : Nat) : Int) ∧ ((A.length + 1 : Nat) : Int) ≤ (((its ++ [[(0 : Int), 0, 0]]).length : Nat) : Int) by omega),
      decide_eq_true (show 0 ≤ ((A.length : Nat) : Int) ∧ ((A.length : Nat) : Int) ≤ (((its ++ [[(0 : Int), 0, 0]]).length : Nat) : Int) by omega), decide_eq_true (by omega), decide_eq_true (by omega)]
    simp only [cond_true]
    have sh := shove A C [(0 : Int), 0, 0]
    rw [← h.1] at sh
    rw [sh]
    have hi : inR (A.length : Int) (A ++ (List.take 1 (C ++ [[(0 : Int), 0, 0]]) ++ C)).length = true := inR_nat (by simp; omega)
    rw [hi]
    simp only [cond_true]
    have fin : List.set (A ++ (List.take 1 (C ++ [[(0 : Int), 0, 0]]) ++ C)) A.length [k, v.asked, v.words] = A ++ [k, v.asked, v.words] :: C := by
      rw [List.set_append_right _ _ (by simp)]
      cases C with
      | nil => simp
      | cons b D => simp
    rw [fin]
    cases C with
    | nil => rfl
    | cons b D =>
      have hb : ¬ kk b = k := by simpa [headIs] using hf
      simp only [hb, if_false]
end
end Go.Rx
end

section
namespace Go.Rx
open Go.Proofs
section
variable {L : yb} {its : List (List Int)} {ws : List Int}
theorem Len_eq (its : List (List Int)) : yn its = some (its.length : Int) := rfl
theorem At_eq (A : List (List Int)) (b : List Int) (C : List (List Int)) : y0l (A.length : Int) (A ++ b :: C) = some (kk b, ⟨aa b, ww b⟩, true) := by
  unfold y0l
  rw [decide_eq_false (show ¬ ((A.length : Int) < 0) by omega), cond_false, Len_eq, Option.bind_some, decide_eq_false (show ¬ ((A.length : Int) ≥ ((A ++ b :: C).length : Int)) by simp; omega), cond_false, offs0, mid_in, Int.toNat_natCast, mid_get]
  rfl
def blkA (its : List (List Int)) (a : Int) : Int × Int × Bool := match its.find? (fun x => decide (hasW x a)) with | some b => (kk b, ww b, true) | none => (0, 0, false)
theorem blkA_no {a : Int} (h : ∀ x ∈ its, ¬ hasW x a) : blkA its a = (0, 0, false) := by
  unfold blkA
  rw [List.find?_eq_none.2 (fun x hx => by simpa using h x hx)]
theorem blkA_at {a : Int} {A C : List (List Int)} {b : List Int} (h : ∀ x ∈ A, ¬ hasW x a) (hb : hasW b a) : blkA (A ++ b :: C) a = (kk b, ww b, true) := by
  unfold blkA
  have : (A ++ b :: C).find? (fun x => decide (hasW x a)) = some b := List.find?_eq_some_iff_append.2 ⟨by simpa using hb, A, C, rfl, fun x hx => by simpa using h x hx⟩
  rw [this]
theorem blkA_any (its : List (List Int)) (a : Int) : (blkA its a).2.2 = its.any (fun x => decide (hasW x a)) := by
  unfold blkA
  cases hf : its.find? (fun x => decide (hasW x a)) with
  | none =>
    rw [List.find?_eq_none] at hf
    symm
    rw [List.any_eq_false]
    exact hf
  | some b =>
    symm
    rw [List.any_eq_true]
    exact ⟨b, List.mem_of_find?_eq_some hf, List.find?_some (p := fun x => decide (hasW x a)) hf⟩
theorem Block_eq (h : SOK L its) (hn : its.length ≤ 1048576) {a : Int} (ha : -9223372036854775808 ≤ a ∧ a ≤ 9223372036854775807) : y06 a L ws its = some (blkA its a) := by
  have hbig := h.big
  obtain ⟨r, h1, h2⟩ := scanS (step := fun s => y2k a its s) (l := its) (fun A => (A.length : Int)) (fun A => ∀ x ∈ A, ¬ hasW x a) (fun r => r = blkA its a)
    (fun A b C e hA => by
      obtain ⟨hb, _, hC⟩ := h.parts e
      have hlt : decide ((A.length : Int) < (its.length : Int)) = true := by rw [e]; exact mid_lt A b C
      have hat : y0l (A.length : Int) its = some (kk b, ⟨aa b, ww b⟩, true) := by rw [e]; exact At_eq A b C
      have hl : A.length < its.length := by rw [e]; simp
      have h1 := hb.lo; have h2 := hb.hi; have h3 := hb.one
      by_cases hgt : kk b > a
      · right
        refine ⟨(0, 0, false), ?_, ?_⟩
        · simp only [y2k, Len_eq, Option.bind_some, hlt, cond_true, hat, decide_eq_true hgt]
        · symm
          refine blkA_no fun x hx => ?_
          rw [e] at hx
          rcases List.mem_append.1 hx with hx | hx
          · exact hA x hx
          · rcases List.mem_cons.1 hx with rfl | hx
            · unfold hasW; omega
            · have := hC x hx; unfold hasW; omega
      · by_cases hw : hasW b a
        · right
          refine ⟨(kk b, ww b, true), ?_, ?_⟩
          · unfold hasW at hw
            simp only [y2k, Len_eq, Option.bind_some, hlt, cond_true, hat, decide_eq_false hgt, cond_false]
            rw [wrap_id (by omega) (by omega), decide_eq_true (by omega), cond_true]
          · rw [e, blkA_at hA hw]
        · left
          refine ⟨?_, fun x hx => ?_⟩
          · have hw' : ¬ (a - kk b < ww b) := by unfold hasW at hw; omega
            simp only [y2k, Len_eq, Option.bind_some, hlt, cond_true, hat, decide_eq_false hgt, cond_false]
            rw [wrap_id (x := a - kk b) (by omega) (by omega), decide_eq_false hw', cond_false, wrap_succ (by omega)]
            simp
          · rcases List.mem_append.1 hx with hx | hx
            · exact hA x hx
            · simp at hx; subst hx; exact hw)
    (fun hA => ⟨(0, 0, false), by
      simp only [y2k, Len_eq, Option.bind_some]
      rw [decide_eq_false (by omega), cond_false], (blkA_no hA).symm⟩)
    (by simp)
  unfold y06 y4i
  have h1 : loopO (fun s => y2k a its s) 0 = some r := h1
  rw [h1, h2]
def pairs (its : List (List Int)) : List Pr := its.map fun x => ⟨kk x, aa x⟩
theorem Live_eq (hn : its.length ≤ 1048575) : yz L ws its = some (pairs its) := by
  obtain ⟨r, h1, h2⟩ := scanS (step := fun s => y2n its (its.length : Int) s.1 s.2) (l := its) (fun A => ((A.length : Int), pairs A)) (fun _ => True) (fun r => r = pairs its)
    (fun A b C e _ => by
      left
      refine ⟨?_, trivial⟩
      have hlt : decide ((A.length : Int) < (its.length : Int)) = true := by rw [e]; exact mid_lt A b C
      have hl : A.length < its.length := by rw [e]; simp
      have hi : inR (A.length : Int) its.length = true := by rw [e]; exact mid_in A b C
      have hg : its.getD A.length (List.replicate 3 0) = b := by rw [e]; exact mid_get A b C _
      have hp : (pairs A).length = A.length := by simp [pairs]
      simp only [y2n, hlt, cond_true, offs0, hi, Int.toNat_natCast, hg, y0h, hp]
      rw [decide_eq_true (by omega), cond_true, Option.bind_some, wrap_succ (by omega)]
      simp only [Bool.not_true, cond_false]
      simp [pairs, kk, aa])
    (fun _ => ⟨pairs its, by
      simp only [y2n]
      rw [decide_eq_false (by omega), cond_false], rfl⟩)
    trivial
  unfold yz y0u y45
  rw [Len_eq, Option.bind_some]
  have h1 : loopO (fun s => y2n its (its.length : Int) s.1 s.2) (0, []) = some r := h1
  rw [h1, h2]; rfl
def sumw (f : List Int → Int) (l : List (List Int)) : Int := l.foldl (fun s x => IntKind.wrap IntKind.i64 (s + f x)) 0
theorem sumw_snoc (f : List Int → Int) (A : List (List Int)) (b : List Int) : sumw f (A ++ [b]) = IntKind.wrap IntKind.i64 (sumw f A + f b) := by simp [sumw, List.foldl_append]
theorem total_eq (hn : its.length ≤ 1048575) : y0s ⟨0, 0⟩ its = some ⟨sumw aa its, sumw ww its⟩ := by
  obtain ⟨r, h1, h2⟩ := scanS (step := fun s => y2r its (its.length : Int) s.1 s.2) (l := its) (fun A => ((A.length : Int), (⟨sumw aa A, sumw ww A⟩ : yj))) (fun _ => True) (fun r => r = ⟨sumw aa its, sumw ww its⟩)
    (fun A b C e _ => by
      left
      refine ⟨?_, trivial⟩
      have hlt : decide ((A.length : Int) < (its.length : Int)) = true := by rw [e]; exact mid_lt A b C
      have hl : A.length < its.length := by rw [e]; simp
      have hi : inR (A.length : Int) its.length = true := by rw [e]; exact mid_in A b C
      have hg : its.getD A.length (List.replicate 3 0) = b := by rw [e]; exact mid_get A b C _
      simp only [y2r, hlt, cond_true, offs0, hi, Int.toNat_natCast, hg, y0m]
      rw [Option.bind_some, wrap_succ (by omega), sumw_snoc, sumw_snoc]
      simp only [Bool.not_true, cond_false]
      simp [aa, ww])
    (fun _ => ⟨_, by
      simp only [y2r]
      rw [decide_eq_false (by omega), cond_false], rfl⟩)
    trivial
  unfold y0s y48
  rw [Len_eq, Option.bind_some]
  have h1 : loopO (fun s => y2r its (its.length : Int) s.1 s.2) (0, ⟨0, 0⟩) = some r := h1
  rw [h1, h2]
def wordA (L : yb) (ws : List Int) (a : Int) : Int := if L.at_10 ≤ a ∧ a < L.at_11 then ws.getD (a - L.at_10).toNat 0 else 0
theorem lPlace_ok (L : yb) (a : Int) : (lPlace L a).2.2 = decide (L.at_10 ≤ a ∧ a < L.at_11) := by
  unfold lPlace; split <;> simp_all
theorem Word_eq (h : LayOK L) (hw : (ws.length : Int) = L.at_11 - L.at_10) (a : Int) : yp a L ws its = some (wordA L ws a) := by
  have hb := h.big; have h11 := h.a11; have hp := h.pages
  unfold yp wordA
  rw [Place_eq h, Option.bind_some, lPlace_ok]
  by_cases ha : L.at_10 ≤ a ∧ a < L.at_11
  · rw [decide_eq_true ha, if_pos ha, User_eq, Option.bind_some, offs0, wrap_id (by omega) (by omega), inR_int (by omega) (by omega)]; rfl
  · rw [decide_eq_false ha, if_neg ha]; rfl
def eqR (r : T_api_Reply) (e a s v : Int) : Bool := r.Err == e && (r.Addr == a && (r.Size == s && (r.Value == v && (r.Stats.Blocks == 0 && (r.Stats.Asked == 0 && (r.Stats.Words == 0 && (r.Stats.Kept == 0 && (r.Stats.Open == 0 && (r.Stats.Mapped == 0 && (r.Stats.Used == 0 && Bool.true)))))) && Bool.true))))
def freeB (its : List (List Int)) (a : Int) (n : Nat) : Bool := (List.range n).all fun i => !its.any (fun x => decide (hasW x (a + i)))
theorem freeB_false {a : Int} {n i : Nat} (hi : i < n) (h : its.any (fun x => decide (hasW x (a + i))) = true) : freeB its a n = false := by
  unfold freeB
  rw [List.all_eq_false]
  exact ⟨i, List.mem_range.2 hi, by rw [h]; simp⟩
theorem freeB_true {a : Int} {n : Nat} (h : ∀ i, i < n → its.any (fun x => decide (hasW x (a + (i : Nat)))) = false) : freeB its a n = true := by
  unfold freeB
  rw [List.all_eq_true]
  intro i hi
  rw [h i (List.mem_range.1 hi)]; rfl
theorem freeB_spec {a : Int} {n : Nat} (h : freeB its a n = true) {x : List Int} (hx : x ∈ its) {b : Int} (h1 : a ≤ b) (h2 : b < a + n) : ¬ hasW x b := by
  intro hw
  unfold freeB at h
  rw [List.all_eq_true] at h
  have := h (b - a).toNat (List.mem_range.2 (by omega))
  rw [show a + ((b - a).toNat : Nat) = b by omega] at this
  have h3 : its.any (fun x => decide (hasW x b)) = true := List.any_eq_true.2 ⟨x, hx, by simpa using hw⟩
  rw [h3] at this; cases this
def fitB (L : yb) (its : List (List Int)) (c : ye) (r : T_api_Reply) : Bool :=
  eqR r 0 r.Addr (rndI c.Size (alI c)) 0 && (!(rndI c.Size (alI c) == 0) && (Int.tmod r.Addr (alI c) == 0 && (decide (L.at_10 ≤ r.Addr ∧ r.Addr < L.at_11) && (decide (rndI c.Size (alI c) ≤ L.at_11 - r.Addr) && freeB its r.Addr (rndI c.Size (alI c)).toNat))))
theorem rnd_eq (n al : Int) : y00 n al = some (rndI n al) := by
  unfold y00 rndI
  by_cases h : n > 1048576
  · rw [decide_eq_true h, if_pos h]; rfl
  · rw [decide_eq_false h, if_neg h, cRound_eq _ _ (by omega)]; rfl
theorem fitsL_eq (h : SOK L its) (hn : its.length ≤ 1048576) {r : T_api_Reply} (ha : L.at_10 ≤ r.Addr ∧ r.Addr < L.at_11) {n : Int} (h0 : 0 ≤ n ∧ n ≤ L.at_11 - r.Addr) : y2u r L ws its n 0 = some (freeB its r.Addr n.toNat) := by
  have hb := h.big
  obtain ⟨x, h1, h2⟩ := countS (step := fun s => y2t r L ws its n s) (fun i => (i : Int)) n.toNat (fun i => ∀ j, j < i → its.any (fun x => decide (hasW x (r.Addr + (j : Nat)))) = false) (fun x => x = freeB its r.Addr n.toNat)
    (fun i hi hI => by
      have hlt : decide ((i : Int) < n) = true := decide_eq_true (by omega)
      have hblk : y06 (IntKind.wrap IntKind.i64 (r.Addr + (i : Int))) L ws its = some (blkA its (r.Addr + (i : Int))) := by
        rw [wrap_id (by omega) (by omega)]; exact Block_eq h hn (by omega)
      simp only [y2t, hlt, cond_true, hblk, Option.bind_some, blkA_any]
      cases hx : its.any (fun x => decide (hasW x (r.Addr + (i : Int)))) with
      | true => exact .inr ⟨false, rfl, (freeB_false hi hx).symm⟩
      | false =>
        left
        refine ⟨by rw [cond_false, wrap_succ (by omega)], fun j hj => ?_⟩
        rcases Nat.lt_or_ge j i with h | h
        · exact hI j h
        · have : j = i := by omega
          subst this; exact hx)
    (fun hI => ⟨true, by
      simp only [y2t]
      rw [decide_eq_false (by omega), cond_false], (freeB_true hI).symm⟩)
    (fun j hj => by omega)
  unfold y2u
  have h1 : loopO (fun s => y2t r L ws its n s) 0 = some x := h1
  rw [h1, h2]
theorem fits_eq (h : SOK L its) (hn : its.length ≤ 1048576) (hw : (ws.length : Int) = L.at_11 - L.at_10) {c : ye} {r : T_api_Reply} (hk : sized c) (hc : askP c) : y0t c r L ws its = some (fitB L its c r) := by
  have hb := h.big
  have hf := hc.2 hk
  have tail : ∀ n al : Int, (0 ≤ n) → (bif (Int.tmod r.Addr al != 0) then some false else (yl L r.Addr).bind fun y1 => bif (!Prod.snd (Prod.snd y1)) then some false else (yi L).bind fun y2 =>
      bif inR (IntKind.wrap IntKind.i64 (r.Addr - y2)) ws.length then (yq L).bind fun y3 => bif decide (n > IntKind.wrap IntKind.i64 (y3 - r.Addr)) then some false else y2u r L ws its n 0 else none) =
      some (Int.tmod r.Addr al == 0 && (decide (L.at_10 ≤ r.Addr ∧ r.Addr < L.at_11) && (decide (n ≤ L.at_11 - r.Addr) && freeB its r.Addr n.toNat))) := by
    intro n al hn0
    by_cases hm : Int.tmod r.Addr al = 0
    · rw [show (Int.tmod r.Addr al != 0) = false by simp [hm], cond_false, show (Int.tmod r.Addr al == 0) = true by simp [hm], Place_eq h.lay, Option.bind_some, lPlace_ok]
      by_cases ha : L.at_10 ≤ r.Addr ∧ r.Addr < L.at_11
      · rw [decide_eq_true ha, User_eq, Option.bind_some, wrap_id (x := r.Addr - _) (by omega) (by omega), inR_int (by omega) (by omega), Words_eq, Option.bind_some, wrap_id (by omega) (by omega)]
        simp only [Bool.not_true, cond_false, cond_true, Bool.true_and]
        by_cases hx : n ≤ L.at_11 - r.Addr
        · rw [decide_eq_false (by omega), cond_false, decide_eq_true hx, Bool.true_and, fitsL_eq h hn ha ⟨hn0, hx⟩]
        · rw [decide_eq_true (by omega), cond_true, decide_eq_false hx]; rfl
      · rw [decide_eq_false ha]; rfl
    · rw [show (Int.tmod r.Addr al != 0) = true by simp [hm], show (Int.tmod r.Addr al == 0) = false by simp [hm]]; rfl
  have nn : 0 ≤ rndI c.Size (alI c) := by
    unfold rndI; split
    · omega
    · have := roundI_le hf (by omega); omega
  unfold y0t fitB
  by_cases h5 : c.Kind = 5
  · have ea : alI c = c.Align := by unfold alI; rw [if_pos h5]
    rw [ea] at nn hf ⊢
    rw [show (c.Kind == 5) = true by simp [h5], cond_true, rnd_eq, Option.bind_some]
    have t := tail (rndI c.Size c.Align) c.Align nn
    change (bif !(eqR r 0 r.Addr (rndI c.Size c.Align) 0) then _ else _) = _
    cases eqR r 0 r.Addr (rndI c.Size c.Align) 0 with
    | false => rfl
    | true =>
      simp only [Bool.not_true, cond_false, Bool.true_and]
      cases rndI c.Size c.Align == 0 with
      | true => rfl
      | false =>
        have hal : (!c.Align == 0) = true := by
          have := hf.2; unfold powI at this
          have : c.Align ≠ 0 := by omega
          simpa using this
        simp only [cond_false, hal, cond_true, Bool.not_false, Bool.true_and]
        exact t
  · have ea : alI c = 1 := by unfold alI; rw [if_neg h5]
    rw [ea] at nn hf ⊢
    rw [show (c.Kind == 5) = false by simpa using h5, cond_false, rnd_eq, Option.bind_some]
    have t := tail (rndI c.Size 1) 1 nn
    change (bif !(eqR r 0 r.Addr (rndI c.Size 1) 0) then _ else _) = _
    cases eqR r 0 r.Addr (rndI c.Size 1) 0 with
    | false => rfl
    | true =>
      simp only [Bool.not_true, cond_false, Bool.true_and]
      cases rndI c.Size 1 == 0 with
      | true => rfl
      | false =>
        simp only [cond_false, Bool.not_false, Bool.true_and]
        exact t
end
end Go.Rx
end

section
namespace Go.Rx
open Go.Proofs
section
variable {L : yb} {its : List (List Int)} {ws : List Int}
theorem ilt_or (a b : Int) : a < b ∨ b ≤ a := by omega
def zeroW (ws : List Int) (f : Nat) : Nat → List Int
  | 0 => ws
  | n + 1 => (zeroW ws f n).set (f + n) 0
def copyW (ws : List Int) (t f : Nat) : Nat → List Int
  | 0 => ws
  | n + 1 => (copyW ws t f n).set (t + n) ((copyW ws t f n).getD (f + n) 0)
theorem zeroW_len (ws : List Int) (f : Nat) : ∀ n, (zeroW ws f n).length = ws.length
  | 0 => rfl
  | n + 1 => by rw [zeroW, List.length_set, zeroW_len ws f n]
theorem copyW_len (ws : List Int) (t f : Nat) : ∀ n, (copyW ws t f n).length = ws.length
  | 0 => rfl
  | n + 1 => by rw [copyW, List.length_set, copyW_len ws t f n]
theorem SOK.ins (h : SOK L its) {A C : List (List Int)} {x : List Int} (e : splitP (kk x) its A C) (hx : BOK L.at_10 L.at_11 x) (hf : freeB its (kk x) (ww x).toNat = true) : SOK L (A ++ x :: C) ∧ headIs (kk x) C = false := by
  have hone := hx.one
  have hfree : ∀ y ∈ its, kk y + ww y ≤ kk x ∨ kk x + ww x ≤ kk y := by
    intro y hy
    have h1 := (h.all y hy).one
    rcases ilt_or (kk x) (kk y) with hl | hl
    · right
      rcases ilt_or (kk y) (kk x + ww x) with h2 | h2
      · exact absurd (show hasW y (kk y) from ⟨by omega, by omega⟩) (freeB_spec hf hy (b := kk y) (by omega) (by omega))
      · exact h2
    · left
      rcases ilt_or (kk x) (kk y + ww y) with h2 | h2
      · exact absurd (show hasW y (kk x) from ⟨by omega, by omega⟩) (freeB_spec hf hy (b := kk x) (by omega) (by omega))
      · exact h2
  obtain ⟨e1, hA, hC⟩ := e
  have hs := h.srt
  rw [e1, List.pairwise_append] at hs
  refine ⟨⟨h.lay, fun y hy => ?_, ?_⟩, ?_⟩
  · rcases List.mem_append.1 hy with hy | hy
    · exact h.all y (by rw [e1]; simp [hy])
    · rcases List.mem_cons.1 hy with rfl | hy
      · exact hx
      · exact h.all y (by rw [e1]; simp [hy])
  · rw [List.pairwise_append]
    refine ⟨hs.1, List.pairwise_cons.2 ⟨fun y hy => ?_, hs.2.1⟩, fun y hy z hz => ?_⟩
    · have h1 := hC y hy
      rcases hfree y (by rw [e1]; simp [hy]) with h2 | h2
      · have := (h.all y (by rw [e1]; simp [hy])).one; omega
      · exact h2
    · rcases List.mem_cons.1 hz with rfl | hz
      · have h1 := hA y hy
        rcases hfree y (by rw [e1]; simp [hy]) with h2 | h2
        · exact h2
        · omega
      · exact hs.2.2 y hy z hz
  · cases C with
    | nil => rfl
    | cons b C =>
      have hb := hfree b (by rw [e1]; simp)
      have h1 := (h.all b (by rw [e1]; simp)).one
      have : kk b ≠ kk x := by omega
      simpa [headIs] using this
theorem eqR_iff {r : T_api_Reply} {e a s v : Int} (h : eqR r e a s v = true) : r.Err = e ∧ r.Addr = a ∧ r.Size = s ∧ r.Value = v := by
  unfold eqR at h
  simp only [Bool.and_eq_true, beq_iff_eq] at h
  exact ⟨h.1, h.2.1, h.2.2.1, h.2.2.2.1⟩
theorem fit_spec {c : ye} {r : T_api_Reply} (hc : fitOK c.Size (alI c)) (h : fitB L its c r = true) :
    r.Size = rndI c.Size (alI c) ∧ r.Err = 0 ∧ (L.at_10 ≤ r.Addr ∧ r.Addr < L.at_11) ∧ r.Size ≤ L.at_11 - r.Addr ∧ (0 ≤ c.Size ∧ c.Size ≤ r.Size) ∧ 1 ≤ r.Size ∧ freeB its r.Addr r.Size.toNat = true := by
  unfold fitB at h
  simp only [Bool.and_eq_true, decide_eq_true_eq] at h
  obtain ⟨h1, h2, h3, h4, h5, h6⟩ := h
  obtain ⟨e1, _, e3, _⟩ := eqR_iff h1
  rw [← e3] at h2 h5 h6
  have hn0 : rndI c.Size (alI c) ≠ 0 := by rw [← e3]; simpa using h2
  have hle : c.Size ≤ 1048576 := by
    rcases ilt_or 1048576 c.Size with h | h
    · exact absurd (by unfold rndI; rw [if_pos h]) hn0
    · exact h
  have hr := roundI_le hc hle
  have he : rndI c.Size (alI c) = roundI c.Size (alI c) := by unfold rndI; rw [if_neg (by omega)]
  have := hc.1
  exact ⟨e3, e1, h4, h5, ⟨this, by omega⟩, by omega, h6⟩
def putL (its : List (List Int)) (x : List Int) : List (List Int) := its.takeWhile (fun y => decide (kk y < kk x)) ++ x :: its.dropWhile (fun y => decide (kk y < kk x))
theorem split_while {A C : List (List Int)} {k : Int} (h : splitP k its A C) : its.takeWhile (fun y => decide (kk y < k)) = A ∧ its.dropWhile (fun y => decide (kk y < k)) = C := by
  obtain ⟨e, hA, hC⟩ := h
  subst e
  have t : ∀ y ∈ A, decide (kk y < k) = true := fun y hy => decide_eq_true (hA y hy)
  rw [List.takeWhile_append_of_pos t, List.dropWhile_append_of_pos t]
  cases C with
  | nil => simp
  | cons b C =>
    have := hC b (by simp)
    have : decide (kk b < k) = false := decide_eq_false (by omega)
    simp [this]
theorem putL_eq {A C : List (List Int)} {x : List Int} (h : splitP (kk x) its A C) : putL its x = A ++ x :: C := by
  unfold putL
  obtain ⟨h1, h2⟩ := split_while h
  rw [h1, h2]
theorem putL_perm (x : List Int) : (putL its x).Perm (x :: its) := by
  unfold putL
  refine List.perm_middle.trans ?_
  rw [List.takeWhile_append_dropWhile]
theorem putL_len (x : List Int) : (putL its x).length = its.length + 1 := (putL_perm x).length_eq
theorem SOK.put (h : SOK L its) {x : List Int} (hx : BOK L.at_10 L.at_11 x) (hf : freeB its (kk x) (ww x).toNat = true) : SOK L (putL its x) := by
  obtain ⟨A, C, e⟩ := h.split (kk x)
  rw [putL_eq e]
  exact (h.ins e hx hf).1
theorem putNew (h : SOK L its) (hn : its.length + 1 ≤ 1048576) {x : List Int} (hx : BOK L.at_10 L.at_11 x) (hf : freeB its (kk x) (ww x).toNat = true) : y02 (kk x) ⟨aa x, ww x⟩ its = some (true, putL its x) := by
  obtain ⟨A, C, e⟩ := h.split (kk x)
  have hh := (h.ins e hx hf).2
  rw [Put_eq _ e hn, putL_eq e, ← hx.eq]
  cases C with
  | nil => rfl
  | cons b C =>
    have : ¬ kk b = kk x := by simpa [headIs] using hh
    simp only [this, if_false]
def freshW (L : yb) (ws : List Int) (c : ye) (r : T_api_Reply) : List Int := if c.Kind = 3 then zeroW ws (r.Addr - L.at_10).toNat r.Size.toNat else ws
theorem freshW_len (c : ye) (r : T_api_Reply) : (freshW L ws c r).length = ws.length := by
  by_cases h3 : c.Kind = 3
  · rw [freshW, if_pos h3]; exact zeroW_len _ _ _
  · rw [freshW, if_neg h3]
theorem freshL_eq (h : LayOK L) (hw : (ws.length : Int) = L.at_11 - L.at_10) {r : T_api_Reply} (ha : L.at_10 ≤ r.Addr ∧ r.Addr < L.at_11) (h0 : 0 ≤ r.Size ∧ r.Size ≤ L.at_11 - r.Addr) (w : List (List Int)) :
    y3i r L w (0, ws) = some (true, w, zeroW ws (r.Addr - L.at_10).toNat r.Size.toNat) := by
  have hb := h.big; have h11 := h.a11; have hp := h.pages
  obtain ⟨x, h1, h2⟩ := countS (step := fun s => y2q r L w s.1 s.2) (fun i => ((i : Int), zeroW ws (r.Addr - L.at_10).toNat i)) r.Size.toNat (fun _ => True) (fun x => x = (true, w, zeroW ws (r.Addr - L.at_10).toNat r.Size.toNat))
    (fun i hi _ => by
      left
      refine ⟨?_, trivial⟩
      have hlt : decide ((i : Int) < r.Size) = true := decide_eq_true (by omega)
      have hok : decide (L.at_10 ≤ r.Addr + (i : Int) ∧ r.Addr + (i : Int) < L.at_11) = true := decide_eq_true (by omega)
      have w1 : IntKind.wrap IntKind.i64 (r.Addr + (i : Int)) = r.Addr + (i : Int) := wrap_id (by omega) (by omega)
      have w2 : IntKind.wrap IntKind.i64 (r.Addr + (i : Int) - L.at_10) = r.Addr + (i : Int) - L.at_10 := wrap_id (by omega) (by omega)
      have hin : inR (r.Addr + (i : Int) - L.at_10) (zeroW ws (r.Addr - L.at_10).toNat i).length = true := by rw [zeroW_len]; exact inR_int (by omega) (by omega)
      simp only [y2q, hlt, cond_true, w1, Place_eq h, Option.bind_some, lPlace_ok, hok, Bool.not_true, cond_false, User_eq, w2, offs0, hin]
      rw [wrap_succ (by omega), show (r.Addr + (i : Int) - L.at_10).toNat = (r.Addr - L.at_10).toNat + i by omega]
      rfl)
    (fun _ => ⟨_, by
      simp only [y2q]
      rw [decide_eq_false (by omega), cond_false], rfl⟩)
    trivial
  unfold y3i
  have h1 : loopO (fun s => y2q r L w s.1 s.2) (0, ws) = some x := h1
  rw [h1, h2]
def freshR (L : yb) (its : List (List Int)) (ws : List Int) (c : ye) (r : T_api_Reply) : Bool × List (List Int) × List Int :=
  bif eqR r 6 0 0 0 then (true, its, ws) else bif !fitB L its c r then (false, its, ws) else (true, putL its [r.Addr, c.Size, r.Size], freshW L ws c r)
theorem newBOK {c : ye} {r : T_api_Reply} (hc : fitOK c.Size (alI c)) (hf : fitB L its c r = true) : BOK L.at_10 L.at_11 [r.Addr, c.Size, r.Size] := by
  obtain ⟨f1, f2, f3, f4, f5, f6, f7⟩ := fit_spec hc hf
  exact ⟨rfl, f3.1, f6, by show r.Addr + r.Size ≤ L.at_11; omega, f5⟩
theorem fresh_eq (h : SOK L its) (hn : its.length + 1 ≤ 1048576) (hw : (ws.length : Int) = L.at_11 - L.at_10) {c : ye} {r : T_api_Reply} (hk : sized c) (hc : askP c) : y04 c r L ws its = some (freshR L its ws c r) := by
  unfold y04 freshR
  change (bif eqR r 6 0 0 0 then _ else _) = _
  cases eqR r 6 0 0 0 with
  | true => rfl
  | false =>
    simp only [cond_false]
    rw [fits_eq h (by omega) hw hk hc, Option.bind_some]
    cases hf : fitB L its c r with
    | false => rfl
    | true =>
      simp only [Bool.not_true, cond_false]
      obtain ⟨f1, f2, f3, f4, f5, f6, f7⟩ := fit_spec (hc.2 hk) hf
      have hx := newBOK (hc.2 hk) hf
      have hp := putNew h hn hx f7
      rw [show y02 r.Addr ⟨c.Size, r.Size⟩ its = some (true, putL its [r.Addr, c.Size, r.Size]) from hp, Option.bind_some]
      unfold freshW
      by_cases h3 : c.Kind = 3
      · rw [show (c.Kind == 3) = true by simp [h3], cond_true, if_pos h3, freshL_eq h.lay hw f3 ⟨by omega, f4⟩]
      · rw [show (c.Kind == 3) = false by simpa using h3, cond_false, if_neg h3]
theorem freshR_ok (h : SOK L its) {c : ye} {r : T_api_Reply} (hc : fitOK c.Size (alI c)) : SOK L (freshR L its ws c r).2.1 ∧ (freshR L its ws c r).2.2.length = ws.length ∧ (freshR L its ws c r).2.1.length ≤ its.length + 1 ∧ ((freshR L its ws c r).1 = false → (freshR L its ws c r).2 = (its, ws)) := by
  unfold freshR
  cases eqR r 6 0 0 0 with
  | true => exact ⟨h, rfl, by simp, fun h => by cases h⟩
  | false =>
    cases hf : fitB L its c r with
    | false => exact ⟨h, rfl, by simp, fun _ => rfl⟩
    | true =>
      obtain ⟨f1, f2, f3, f4, f5, f6, f7⟩ := fit_spec hc hf
      exact ⟨h.put (newBOK hc hf) f7, freshW_len _ _, by simp [putL_len], fun h => by cases h⟩
end
end Go.Rx
end

section
namespace Go.Rx
open Go.Proofs
section
variable {L : yb} {its : List (List Int)} {ws : List Int}
theorem eqR_def (r : T_api_Reply) (e a s v : Int) : eqR r e a s v = (r.Err == e && (r.Addr == a && (r.Size == s && (r.Value == v && (r.Stats.Blocks == 0 && (r.Stats.Asked == 0 && (r.Stats.Words == 0 && (r.Stats.Kept == 0 && (r.Stats.Open == 0 && (r.Stats.Mapped == 0 && (r.Stats.Used == 0 && Bool.true)))))) && Bool.true))))) := rfl
def eqS (r : T_api_Reply) : Bool := r.Err == 0 && (r.Addr == 0 && (r.Size == 0 && (r.Value == 0 && (r.Stats.Blocks == r.Stats.Blocks && (r.Stats.Asked == r.Stats.Asked && (r.Stats.Words == r.Stats.Words && (r.Stats.Kept == r.Stats.Kept && (r.Stats.Open == r.Stats.Open && (r.Stats.Mapped == r.Stats.Mapped && (r.Stats.Used == r.Stats.Used && Bool.true)))))) && Bool.true))))
def getK (its : List (List Int)) (k : Int) : Option (List Int) := its.find? (fun x => kk x == k)
def delK (its : List (List Int)) (k : Int) : List (List Int) := its.filter (fun x => !(kk x == k))
def updK (its : List (List Int)) (x : List Int) : List (List Int) := its.map (fun y => bif kk y == kk x then x else y)
theorem map_no {l : List (List Int)} {x : List Int} (h : ∀ y ∈ l, kk y ≠ kk x) : updK l x = l := by
  unfold updK
  conv => rhs; rw [← List.map_id l]
  refine List.map_congr_left fun y hy => ?_
  rw [show (kk y == kk x) = false by simpa using h y hy]; rfl
theorem del_no {l : List (List Int)} {k : Int} (h : ∀ y ∈ l, kk y ≠ k) : delK l k = l := by
  unfold delK
  rw [List.filter_eq_self]
  intro y hy
  simpa using h y hy
theorem get_no {l : List (List Int)} {k : Int} (h : ∀ y ∈ l, kk y ≠ k) : getK l k = none := by
  unfold getK
  rw [List.find?_eq_none]
  intro y hy
  simpa using h y hy
theorem SOK.look (h : SOK L its) (k : Int) : (∃ A b D, its = A ++ b :: D ∧ kk b = k ∧ splitP k its A (b :: D) ∧ getK its k = some b ∧ delK its k = A ++ D ∧ (∀ x : List Int, kk x = k → updK its x = A ++ x :: D)) ∨
    (∃ A C, splitP k its A C ∧ headIs k C = false ∧ (∀ x ∈ its, kk x ≠ k) ∧ getK its k = none ∧ delK its k = its) := by
  obtain ⟨A, C, e⟩ := h.split k
  have hA : ∀ y ∈ A, kk y ≠ k := fun y hy => by have := e.2.1 y hy; omega
  have none_ : headIs k C = false → (∀ x ∈ C, kk x ≠ k) → (∃ A C, splitP k its A C ∧ headIs k C = false ∧ (∀ x ∈ its, kk x ≠ k) ∧ getK its k = none ∧ delK its k = its) := by
    intro h1 h2
    have hall : ∀ x ∈ its, kk x ≠ k := fun x hx => by
      rw [e.1] at hx
      rcases List.mem_append.1 hx with hx | hx
      · exact hA x hx
      · exact h2 x hx
    exact ⟨A, C, e, h1, hall, get_no hall, del_no hall⟩
  cases C with
  | nil => exact .inr (none_ rfl (by simp))
  | cons b D =>
    have kD := (h.keys e.1).2
    by_cases hb : kk b = k
    · left
      have hD : ∀ y ∈ D, kk y ≠ k := fun y hy => by have := kD y hy; omega
      refine ⟨A, b, D, e.1, hb, e, ?_, ?_, fun x hx => ?_⟩
      · unfold getK
        rw [List.find?_eq_some_iff_append]
        exact ⟨by simpa using hb, A, D, e.1, fun y hy => by simpa using hA y hy⟩
      · rw [e.1]
        have h1 := del_no hA
        have h2 := del_no hD
        unfold delK at h1 h2 ⊢
        rw [List.filter_append, h1, List.filter_cons, show (!(kk b == k)) = false by simp [hb], h2]; rfl
      · rw [e.1]
        have h1 : updK A x = A := map_no (fun y hy => by rw [hx]; exact hA y hy)
        have h2 : updK D x = D := map_no (fun y hy => by rw [hx]; exact hD y hy)
        unfold updK at h1 h2 ⊢
        rw [List.map_append, h1, List.map_cons, h2, show (kk b == kk x) = true by simp [hb, hx]]; rfl
    · refine .inr (none_ (by simpa [headIs] using hb) fun x hx => ?_)
      rcases List.mem_cons.1 hx with rfl | hx
      · exact hb
      · have := kD x hx; have := e.2.2 b (by simp); omega
theorem GetK_eq (h : SOK L its) (hn : its.length ≤ 1048576) (k : Int) : y05 k its = some (match getK its k with | none => (⟨0, 0⟩, false) | some b => (⟨aa b, ww b⟩, true)) := by
  rcases h.look k with ⟨A, b, D, e, hb, hs, hg, _, _⟩ | ⟨A, C, hs, hh, _, hg, _⟩
  · rw [Get_eq hs hn, hg]; simp [hb]
  · rw [Get_eq hs hn, hg]
    cases C with
    | nil => rfl
    | cons b C =>
      have : ¬ kk b = k := by simpa [headIs] using hh
      simp [this]
theorem CutK_eq (h : SOK L its) (hn : its.length ≤ 1048576) (k : Int) : ∃ b, y0a k its = some (b, delK its k) := by
  rcases h.look k with ⟨A, b, D, e, hb, hs, hg, hd, _⟩ | ⟨A, C, hs, hh, _, hg, hd⟩
  · rw [Cut_eq hs hn, hd]; simp [hb]
  · rw [Cut_eq hs hn, hd]
    cases C with
    | nil => exact ⟨_, rfl⟩
    | cons b C =>
      have : ¬ kk b = k := by simpa [headIs] using hh
      simp [this]
theorem PutK_eq (h : SOK L its) (hn : its.length + 1 ≤ 1048576) {k : Int} {b : List Int} (hg : getK its k = some b) (s w : Int) : ∃ x, y02 k ⟨s, w⟩ its = some (x, updK its [k, s, w]) := by
  rcases h.look k with ⟨A, b, D, e, hb, hs, _, _, hu⟩ | ⟨A, C, hs, hh, _, hg', _⟩
  · rw [Put_eq _ hs hn, hu [k, s, w] rfl]; simp [hb]
  · rw [hg'] at hg; cases hg
theorem getK_mem {k : Int} {b : List Int} (hg : getK its k = some b) : b ∈ its ∧ kk b = k := by
  unfold getK at hg
  exact ⟨List.mem_of_find?_eq_some hg, by simpa using List.find?_some hg⟩
theorem SOK.del (h : SOK L its) (k : Int) : SOK L (delK its k) := by
  refine ⟨h.lay, fun x hx => h.all x (List.mem_filter.1 hx).1, h.srt.filter _⟩
theorem delK_len (its : List (List Int)) (k : Int) : (delK its k).length ≤ its.length := List.length_filter_le _ _
theorem SOK.upd (h : SOK L its) {k s : Int} {b : List Int} (hg : getK its k = some b) (hs : 0 ≤ s ∧ s ≤ ww b) : SOK L (updK its [k, s, ww b]) := by
  rcases h.look k with ⟨A, b', D, e, hb, _, hg', _, hu⟩ | ⟨A, C, _, _, _, hg', _⟩
  · rw [hg'] at hg
    injection hg with hg
    subst hg
    rw [hu [k, s, ww b'] rfl]
    have hB := h.all b' (by rw [e]; simp)
    have hsr := h.srt
    rw [e, List.pairwise_append] at hsr
    refine ⟨h.lay, fun x hx => ?_, ?_⟩
    · rcases List.mem_append.1 hx with hx | hx
      · exact h.all x (by rw [e]; simp [hx])
      · rcases List.mem_cons.1 hx with rfl | hx
        · exact ⟨rfl, by show L.at_10 ≤ k; rw [← hb]; exact hB.lo, hB.one, by show k + ww b' ≤ L.at_11; rw [← hb]; exact hB.hi, hs⟩
        · exact h.all x (by rw [e]; simp [hx])
    · rw [List.pairwise_append]
      obtain ⟨p1, p2⟩ := List.pairwise_cons.1 hsr.2.1
      refine ⟨hsr.1, List.pairwise_cons.2 ⟨fun y hy => ?_, p2⟩, fun y hy z hz => ?_⟩
      · show k + ww b' ≤ kk y; rw [← hb]; exact p1 y hy
      · rcases List.mem_cons.1 hz with rfl | hz
        · show kk y + ww y ≤ k; rw [← hb]; exact hsr.2.2 y hy b' (by simp)
        · exact hsr.2.2 y hy z (by simp [hz])
  · rw [hg'] at hg; cases hg
def againR (L : yb) (its : List (List Int)) (ws : List Int) (c : ye) (r : T_api_Reply) : Bool × List (List Int) × List Int :=
  match getK its c.Addr with
  | none => (eqR r 7 0 0 0, its, ws)
  | some b => bif rndI c.Size 1 == ww b then (bif eqR r 0 c.Addr (ww b) 0 then (true, updK its [c.Addr, c.Size, ww b], ws) else (false, its, ws)) else
    bif !(freshR L its ws c r).1 then (false, (freshR L its ws c r).2) else bif r.Err != 0 then (true, (freshR L its ws c r).2) else
      (true, delK (freshR L its ws c r).2.1 c.Addr, copyW (freshR L its ws c r).2.2 (r.Addr - L.at_10).toNat (c.Addr - L.at_10).toNat (min (aa b) c.Size).toNat)
theorem againL_eq {w : List (List Int)} (h : SOK L w) (hn : w.length ≤ 1048576) (hw : (ws.length : Int) = L.at_11 - L.at_10) {c : ye} {r : T_api_Reply} {n : Int} (h0 : 0 ≤ n) (ht : L.at_10 ≤ r.Addr ∧ r.Addr + n ≤ L.at_11) (hf : L.at_10 ≤ c.Addr ∧ c.Addr + n ≤ L.at_11) :
    y3h c r L n w (0, ws) = some (true, delK w c.Addr, copyW ws (r.Addr - L.at_10).toNat (c.Addr - L.at_10).toNat n.toNat) := by
  have hb := h.big
  obtain ⟨bb, hcut⟩ := CutK_eq h hn c.Addr
  obtain ⟨x, h1, h2⟩ := countS (step := fun s => y2s c r L n w s.1 s.2) (fun i => ((i : Int), copyW ws (r.Addr - L.at_10).toNat (c.Addr - L.at_10).toNat i)) n.toNat (fun _ => True) (fun x => x = (true, delK w c.Addr, copyW ws (r.Addr - L.at_10).toNat (c.Addr - L.at_10).toNat n.toNat))
    (fun i hi _ => by
      left
      refine ⟨?_, trivial⟩
      have hlt : decide ((i : Int) < n) = true := decide_eq_true (by omega)
      have hok : decide (L.at_10 ≤ r.Addr + (i : Int) ∧ r.Addr + (i : Int) < L.at_11) = true := decide_eq_true (by omega)
      have w1 : IntKind.wrap IntKind.i64 (r.Addr + (i : Int)) = r.Addr + (i : Int) := wrap_id (by omega) (by omega)
      have w2 : IntKind.wrap IntKind.i64 (r.Addr + (i : Int) - L.at_10) = r.Addr + (i : Int) - L.at_10 := wrap_id (by omega) (by omega)
      have w3 : IntKind.wrap IntKind.i64 (c.Addr + (i : Int)) = c.Addr + (i : Int) := wrap_id (by omega) (by omega)
      have hin : inR (r.Addr + (i : Int) - L.at_10) (copyW ws (r.Addr - L.at_10).toNat (c.Addr - L.at_10).toNat i).length = true := by rw [copyW_len]; exact inR_int (by omega) (by omega)
      have hwd := Word_eq (its := w) h.lay (ws := copyW ws (r.Addr - L.at_10).toNat (c.Addr - L.at_10).toNat i) (by rw [copyW_len]; exact hw) (c.Addr + (i : Int))
      simp only [y2s, hlt, cond_true, w1, w3, Place_eq h.lay, Option.bind_some, lPlace_ok, hok, Bool.not_true, cond_false, User_eq, w2, offs0, hin, hwd]
      rw [wrap_succ (by omega), show (r.Addr + (i : Int) - L.at_10).toNat = (r.Addr - L.at_10).toNat + i by omega]
      have : wordA L (copyW ws (r.Addr - L.at_10).toNat (c.Addr - L.at_10).toNat i) (c.Addr + (i : Int)) = (copyW ws (r.Addr - L.at_10).toNat (c.Addr - L.at_10).toNat i).getD ((c.Addr - L.at_10).toNat + i) 0 := by
        unfold wordA
        rw [if_pos (by omega), show (c.Addr + (i : Int) - L.at_10).toNat = (c.Addr - L.at_10).toNat + i by omega]
      rw [this]; rfl)
    (fun _ => ⟨_, by
      simp only [y2s]
      rw [decide_eq_false (by omega), cond_false, hcut, Option.bind_some], rfl⟩)
    trivial
  unfold y3h
  have h1 : loopO (fun s => y2s c r L n w s.1 s.2) (0, ws) = some x := h1
  rw [h1, h2]
theorem imin' (x y : Int) : (if x < y then x else y) = min y x := by rw [Int.min_def]; split <;> split <;> omega
theorem ptr_eq (r : T_api_Reply) : y01 r = some (eqR r 7 0 0 0) := rfl
theorem again_eq (h : SOK L its) (hn : its.length + 1 ≤ 1048576) (hw : (ws.length : Int) = L.at_11 - L.at_10) {c : ye} {r : T_api_Reply} (hk : c.Kind = 4) (hc : askP c) : y1d c r L ws its = some (againR L its ws c r) := by
  have hsz : sized c := .inr (.inr (.inl hk))
  have ea : alI c = 1 := by unfold alI; rw [if_neg (by omega)]
  have hfit := hc.2 hsz
  unfold y1d againR
  rw [GetK_eq h (by omega), Option.bind_some]
  cases hg : getK its c.Addr with
  | none => rfl
  | some b =>
    obtain ⟨hm, hkb⟩ := getK_mem hg
    have hB := h.all b hm
    simp only [Bool.not_true, cond_false]
    rw [rnd_eq, Option.bind_some]
    cases hr : rndI c.Size 1 == ww b with
    | true =>
      simp only [cond_true, ← eqR_def]
      cases heq : eqR r 0 c.Addr (ww b) 0 with
      | false => rfl
      | true =>
        obtain ⟨x, hp⟩ := PutK_eq h hn hg c.Size (ww b)
        simp only [cond_true]
        rw [hp, Option.bind_some]
    | false =>
      simp only [cond_false]
      rw [fresh_eq h hn hw hsz hc, Option.bind_some]
      have hok := freshR_ok (ws := ws) (r := r) h hfit
      cases hf : (freshR L its ws c r).1 with
      | false => rfl
      | true =>
        simp only [Bool.not_true, cond_false]
        by_cases he : r.Err = 0
        · rw [show (r.Err != 0) = false by simp [he], cond_false, cond_false, imin']
          have hfb : fitB L its c r = true := by
            unfold freshR at hf
            have : eqR r 6 0 0 0 = false := by
              cases h6 : eqR r 6 0 0 0 with
              | false => rfl
              | true => have := (eqR_iff h6).1; omega
            rw [this, cond_false] at hf
            cases hfb : fitB L its c r with
            | true => rfl
            | false => rw [hfb] at hf; cases hf
          obtain ⟨f1, f2, f3, f4, f5, f6, f7⟩ := fit_spec hfit hfb
          have h1 := hB.lo; have h2 := hB.hi; have h3 := hB.ask
          exact againL_eq hok.1 (by omega) (by rw [hok.2.1]; exact hw) (by omega) ⟨f3.1, by omega⟩ ⟨by omega, by omega⟩
        · rw [show (r.Err != 0) = true by simpa using he, cond_true, cond_true]
end
end Go.Rx
end

section
namespace Go.Rx
open Go.Proofs
section
variable {L : yb} {its : List (List Int)} {ws : List Int}
def freeR (its : List (List Int)) (c : ye) (r : T_api_Reply) : Bool × List (List Int) :=
  bif (getK its c.Addr).isNone && (c.Addr != 0) then (eqR r 7 0 0 0, its) else bif !eqR r 0 0 0 0 then (false, its) else (true, delK its c.Addr)
theorem free_eq (h : SOK L its) (hn : its.length ≤ 1048576) (c : ye) (r : T_api_Reply) : y1a c r L ws its = some (freeR its c r) := by
  unfold y1a freeR
  obtain ⟨bb, hcut⟩ := CutK_eq h hn c.Addr
  rw [GetK_eq h hn, Option.bind_some]
  simp only [← eqR_def, ptr_eq, Option.bind_some, hcut]
  cases hg : getK its c.Addr with
  | none =>
    simp only [Bool.not_false, cond_true, Option.isNone_none, Bool.true_and]
    cases c.Addr != 0 with
    | true => rfl
    | false => cases eqR r 0 0 0 0 <;> rfl
  | some b =>
    simp only [Bool.not_true, cond_false, Option.isNone_some, Bool.false_and]
    cases eqR r 0 0 0 0 <;> rfl
def usableR (its : List (List Int)) (c : ye) (r : T_api_Reply) : Bool := match getK its c.Addr with | none => eqR r 7 0 0 0 | some b => eqR r 0 0 (ww b) 0
theorem usable_eq (h : SOK L its) (hn : its.length ≤ 1048576) (c : ye) (r : T_api_Reply) : y1e c r L ws its = some (usableR its c r) := by
  unfold y1e usableR
  rw [GetK_eq h hn, Option.bind_some]
  simp only [← eqR_def, ptr_eq, Option.bind_some]
  cases getK its c.Addr <;> rfl
noncomputable def rightB (s : ya) : Bool := (y1j s).getD false
theorem right_c {s : ya} (h : statB s) : y1j s = some (rightB s) ∧ y35 s = some (rightB s) := by
  obtain ⟨b, h1, h2⟩ := Right_eq s h
  unfold rightB
  rw [h1, h2]; exact ⟨rfl, rfl⟩
noncomputable def statsR (L : yb) (its : List (List Int)) (r : T_api_Reply) : Bool :=
  eqS r && (rightB r.Stats && (decide (r.Stats.Mapped ≤ L.c.Pages) && (r.Stats.Blocks == (its.length : Int) && (r.Stats.Asked == sumw aa its && r.Stats.Words == sumw ww its))))
theorem eqS_def (r : T_api_Reply) : eqS r = (r.Err == 0 && (r.Addr == 0 && (r.Size == 0 && (r.Value == 0 && (r.Stats.Blocks == r.Stats.Blocks && (r.Stats.Asked == r.Stats.Asked && (r.Stats.Words == r.Stats.Words && (r.Stats.Kept == r.Stats.Kept && (r.Stats.Open == r.Stats.Open && (r.Stats.Mapped == r.Stats.Mapped && (r.Stats.Used == r.Stats.Used && Bool.true)))))) && Bool.true))))) := rfl
theorem stats_eq (hn : its.length ≤ 1048575) {r : T_api_Reply} (hs : statB r.Stats) : y0z r L ws its = some (statsR L its r) := by
  unfold y0z statsR
  simp only [← eqS_def]
  rw [total_eq hn, Option.bind_some]
  cases eqS r with
  | false => rfl
  | true =>
    simp only [Bool.not_true, cond_false, Bool.true_and]
    rw [(right_c hs).1, Option.bind_some]
    cases rightB r.Stats with
    | false => rfl
    | true =>
      simp only [Bool.not_true, cond_false, Bool.true_and]
      rw [Config_eq, Option.bind_some]
      by_cases hm : r.Stats.Mapped > L.c.Pages
      · rw [decide_eq_true (show r.Stats.Mapped > (cOf L).Pages from hm), cond_true, decide_eq_false (by omega)]; rfl
      · rw [decide_eq_false (show ¬ r.Stats.Mapped > (cOf L).Pages from hm), cond_false, decide_eq_true (by omega), Len_eq, Option.bind_some, Bool.true_and]
        cases r.Stats.Blocks == (its.length : Int) with
        | false => rfl
        | true => cases r.Stats.Asked == sumw aa its <;> rfl
def accessR (L : yb) (its : List (List Int)) (ws : List Int) (c : ye) (r : T_api_Reply) : Bool × List Int :=
  bif !its.any (fun x => decide (hasW x c.Addr)) then (eqR r 7 0 0 0, ws) else bif c.Kind == 11 then (eqR r 0 0 0 (wordA L ws c.Addr), ws) else
    bif !eqR r 0 0 0 0 then (false, ws) else (true, ws.set (c.Addr - L.at_10).toNat c.Value)
theorem access_eq (h : SOK L its) (hn : its.length ≤ 1048576) (hw : (ws.length : Int) = L.at_11 - L.at_10) {c : ye} (ha : -9223372036854775808 ≤ c.Addr ∧ c.Addr ≤ 9223372036854775807) (r : T_api_Reply) : y1c c r L ws its = some (accessR L its ws c r) := by
  have hb := h.big
  unfold y1c accessR
  rw [Block_eq h hn ha, Option.bind_some, blkA_any]
  simp only [← eqR_def, ptr_eq, Option.bind_some]
  cases hx : its.any (fun x => decide (hasW x c.Addr)) with
  | false => rfl
  | true =>
    simp only [Bool.not_true, cond_false]
    rw [Word_eq h.lay hw, Option.bind_some]
    cases c.Kind == 11 with
    | true => simp only [cond_true, eqR_def]
    | false =>
      simp only [cond_false]
      cases eqR r 0 0 0 0 with
      | false => rfl
      | true =>
        obtain ⟨x, hm, hh⟩ := List.any_eq_true.1 hx
        have hh : hasW x c.Addr := by simpa using hh
        have hB := h.all x hm
        have h1 := hB.lo; have h2 := hB.hi
        unfold hasW at hh
        have hok : decide (L.at_10 ≤ c.Addr ∧ c.Addr < L.at_11) = true := decide_eq_true (by omega)
        simp only [Bool.not_true, cond_false]
        rw [Place_eq h.lay, Option.bind_some, lPlace_ok, hok, User_eq, Option.bind_some, wrap_id (by omega) (by omega), offs0, inR_int (by omega) (by omega)]; rfl
noncomputable def stepR (L : yb) (its : List (List Int)) (ws : List Int) (c : ye) (r : T_api_Reply) : Bool × List (List Int) × List Int :=
  bif eqR r 8 0 0 0 then (true, its, ws) else bif askI c != 0 then (eqR r (askI c) 0 0 0, its, ws) else
  if c.Kind = 1 ∨ c.Kind = 3 ∨ c.Kind = 5 then freshR L its ws c r else
  if c.Kind = 4 then (if c.Addr = 0 then freshR L its ws c r else againR L its ws c r) else
  if c.Kind = 2 then ((freeR its c r).1, (freeR its c r).2, ws) else
  if c.Kind = 6 then (usableR its c r, its, ws) else
  if c.Kind = 7 ∨ c.Kind = 9 then (eqR r 0 0 0 0, its, ws) else
  if c.Kind = 8 then (eqR r 0 0 r.Size 0 && (decide (0 ≤ r.Size) && decide (r.Size ≤ L.c.Pages)), its, ws) else
  if c.Kind = 10 then (statsR L its r, its, ws) else ((accessR L its ws c r).1, its, (accessR L its ws c r).2)
structure CRB (c : ye) (r : T_api_Reply) : Prop where
  addr : -9223372036854775808 ≤ c.Addr ∧ c.Addr ≤ 9223372036854775807
  size : c.Size ≤ 9223372036854775807
  stats : statB r.Stats
theorem Step_eq (h : SOK L its) (hn : its.length + 1 ≤ 1048576) (hw : (ws.length : Int) = L.at_11 - L.at_10) {c : ye} {r : T_api_Reply} (hb : CRB c r) : yo c r L ws its = some (stepR L its ws c r) := by
  unfold yo stepR
  simp only [← eqR_def]
  cases eqR r 8 0 0 0 with
  | true => rfl
  | false =>
    simp only [cond_false]
    rw [cAsks_eq _ hb.size, Option.bind_some]
    by_cases hp : askP c
    · have ha : askI c = 0 := by unfold askI; rw [if_pos hp]
      simp only [ha, bne_self_eq_false, cond_false]
      have e : ∀ k : Int, c.Kind ≠ k → (c.Kind == k) = false := fun k hk => by simpa using hk
      have e' : ∀ k : Int, c.Kind = k → (c.Kind == k) = true := fun k hk => by simpa using hk
      by_cases h1 : c.Kind = 1 ∨ c.Kind = 3 ∨ c.Kind = 5
      · rw [if_pos h1]
        have hs : sized c := by unfold sized; omega
        rw [fresh_eq h hn hw hs hp]
        rcases h1 with h1 | h1 | h1
        · rw [e' 1 h1]; rfl
        · rw [e 1 (by omega), e' 3 h1]; rfl
        · rw [e 1 (by omega), e 3 (by omega), e' 5 h1]; rfl
      · rw [if_neg h1, e 1 (by omega), e 3 (by omega), e 5 (by omega)]
        simp only [cond_false]
        by_cases h4 : c.Kind = 4
        · rw [if_pos h4, e' 4 h4, cond_true]
          by_cases hz : c.Addr = 0
          · rw [if_pos hz, show (c.Addr == 0) = true by simpa using hz, cond_true, fresh_eq h hn hw (by unfold sized; omega) hp]; rfl
          · rw [if_neg hz, show (c.Addr == 0) = false by simpa using hz, cond_false, again_eq h hn hw h4 hp]; rfl
        · rw [if_neg h4, e 4 h4, cond_false]
          by_cases h2 : c.Kind = 2
          · rw [if_pos h2, e' 2 h2, cond_true, free_eq h (by omega)]; rfl
          · rw [if_neg h2, e 2 h2, cond_false]
            by_cases h6 : c.Kind = 6
            · rw [if_pos h6, e' 6 h6, cond_true, usable_eq h (by omega)]; rfl
            · rw [if_neg h6, e 6 h6, cond_false]
              by_cases h7 : c.Kind = 7 ∨ c.Kind = 9
              · rw [if_pos h7]
                rcases h7 with h7 | h7
                · rw [e' 7 h7]; rfl
                · rw [e 7 (by omega), e' 9 h7]; rfl
              · rw [if_neg h7, e 7 (by omega), e 9 (by omega)]
                simp only [cond_false]
                by_cases h8 : c.Kind = 8
                · rw [if_pos h8, e' 8 h8, cond_true, Config_eq, Option.bind_some]
                  cases eqR r 0 0 r.Size 0 with
                  | false => rfl
                  | true =>
                    by_cases hs : 0 ≤ r.Size
                    · rw [decide_eq_true (show r.Size ≥ 0 from hs)]; rfl
                    · rw [decide_eq_false (show ¬ r.Size ≥ 0 from hs)]; rfl
                · rw [if_neg h8, e 8 h8, cond_false]
                  by_cases h10 : c.Kind = 10
                  · rw [if_pos h10, e' 10 h10, cond_true, stats_eq (by omega) hb.stats]; rfl
                  · rw [if_neg h10, e 10 h10, cond_false, access_eq h (by omega) hw hb.addr]; rfl
    · have ha : askI c = 2 := by unfold askI; rw [if_neg hp]
      rw [ha]; rfl
theorem againR_ok (h : SOK L its) {c : ye} {r : T_api_Reply} (hk : c.Kind = 4) (hc : fitOK c.Size (alI c)) : SOK L (againR L its ws c r).2.1 ∧ (againR L its ws c r).2.2.length = ws.length ∧ (againR L its ws c r).2.1.length ≤ its.length + 1 ∧ ((againR L its ws c r).1 = false → (againR L its ws c r).2 = (its, ws)) := by
  have hf := freshR_ok (ws := ws) (r := r) h hc
  have ea : alI c = 1 := by unfold alI; rw [if_neg (by omega)]
  unfold againR
  cases hg : getK its c.Addr with
  | none => exact ⟨h, rfl, by simp, fun _ => rfl⟩
  | some b =>
    simp only
    cases hr : rndI c.Size 1 == ww b with
    | true =>
      have hr : rndI c.Size 1 = ww b := by simpa using hr
      simp only [cond_true]
      cases eqR r 0 c.Addr (ww b) 0 with
      | true =>
        have hB := h.all b (getK_mem hg).1
        have h1 := hB.one
        have hle : c.Size ≤ 1048576 := by
          rcases ilt_or 1048576 c.Size with h | h
          · unfold rndI at hr; rw [if_pos h] at hr; omega
          · exact h
        rw [ea] at hc
        have h2 := roundI_le hc hle
        unfold rndI at hr
        rw [if_neg (by omega)] at hr
        exact ⟨h.upd hg ⟨hc.1, by omega⟩, rfl, by simp [updK], fun h => by cases h⟩
      | false => exact ⟨h, rfl, by simp, fun _ => rfl⟩
    | false =>
      simp only [cond_false]
      cases hf1 : (freshR L its ws c r).1 with
      | false => exact ⟨hf.1, hf.2.1, hf.2.2.1, fun _ => hf.2.2.2 hf1⟩
      | true =>
        simp only [Bool.not_true, cond_false]
        cases r.Err != 0 with
        | true => exact ⟨hf.1, hf.2.1, hf.2.2.1, fun h => by cases h⟩
        | false => exact ⟨hf.1.del _, by rw [cond_false, copyW_len]; exact hf.2.1, Nat.le_trans (delK_len _ _) hf.2.2.1, fun h => by cases h⟩
theorem stepR_ok (h : SOK L its) {c : ye} {r : T_api_Reply} : SOK L (stepR L its ws c r).2.1 ∧ (stepR L its ws c r).2.2.length = ws.length ∧ (stepR L its ws c r).2.1.length ≤ its.length + 1 ∧ ((stepR L its ws c r).1 = false → (stepR L its ws c r).2 = (its, ws)) := by
  have same : ∀ b : Bool, SOK L (b, its, ws).2.1 ∧ (b, its, ws).2.2.length = ws.length ∧ (b, its, ws).2.1.length ≤ its.length + 1 ∧ ((b, its, ws).1 = false → (b, its, ws).2 = (its, ws)) := fun b => ⟨h, rfl, Nat.le_succ _, fun _ => rfl⟩
  unfold stepR
  cases eqR r 8 0 0 0 with
  | true => exact same _
  | false =>
    simp only [cond_false]
    by_cases hp : askP c
    · have ha : askI c = 0 := by unfold askI; rw [if_pos hp]
      simp only [ha, bne_self_eq_false, cond_false]
      by_cases h1 : c.Kind = 1 ∨ c.Kind = 3 ∨ c.Kind = 5
      · rw [if_pos h1]; exact freshR_ok h (hp.2 (by unfold sized; omega))
      rw [if_neg h1]
      by_cases h4 : c.Kind = 4
      · rw [if_pos h4]
        by_cases hz : c.Addr = 0
        · rw [if_pos hz]; exact freshR_ok h (hp.2 (by unfold sized; omega))
        · rw [if_neg hz]; exact againR_ok h h4 (hp.2 (by unfold sized; omega))
      rw [if_neg h4]
      by_cases h2 : c.Kind = 2
      · rw [if_pos h2]
        unfold freeR
        cases (getK its c.Addr).isNone && (c.Addr != 0) with
        | true => exact same _
        | false =>
          cases eqR r 0 0 0 0 with
          | false => exact same _
          | true => exact ⟨h.del _, rfl, Nat.le_trans (delK_len _ _) (Nat.le_succ _), fun h => by cases h⟩
      rw [if_neg h2]
      by_cases h6 : c.Kind = 6
      · rw [if_pos h6]; exact same _
      rw [if_neg h6]
      by_cases h7 : c.Kind = 7 ∨ c.Kind = 9
      · rw [if_pos h7]; exact same _
      rw [if_neg h7]
      by_cases h8 : c.Kind = 8
      · rw [if_pos h8]; exact same _
      rw [if_neg h8]
      by_cases h10 : c.Kind = 10
      · rw [if_pos h10]; exact same _
      rw [if_neg h10]
      unfold accessR
      cases its.any (fun x => decide (hasW x c.Addr)) with
      | false => exact same _
      | true =>
        cases c.Kind == 11 with
        | true => exact same _
        | false =>
          cases eqR r 0 0 0 0 with
          | false => exact same _
          | true => exact ⟨h, by simp, by simp, fun h => by cases h⟩
    · have ha : askI c = 2 := by unfold askI; rw [if_neg hp]
      rw [ha]; exact same _
end
end Go.Rx
end

section
namespace Go.Rx
open Go.Proofs
theorem wrap_u64' (x : Int) : IntKind.wrap IntKind.u64 x = x % 18446744073709551616 := rfl
theorem within_eq {n low high : Int} (h : 0 ≤ low ∧ low ≤ high ∧ high ≤ 1099511627776) : ∃ x, y0j n low high = some x ∧ low ≤ x ∧ x ≤ high := by
  unfold y0j
  have hu : ∀ x : Int, 0 ≤ x → x < 18446744073709551616 → IntKind.wrap IntKind.u64 x = x := fun x h1 h2 => by
    rw [wrap_u64']; omega
  have hn : ∀ x : Int, 0 ≤ IntKind.wrap IntKind.u64 x := fun x => by
    rw [wrap_u64']; exact Int.emod_nonneg _ (by decide)
  rw [wrap_id (x := high - low) (by omega) (by omega), wrap_id (x := high - low + 1) (by omega) (by omega), hu (high - low + 1) (by omega) (by omega)]
  have e : (!(high - low + 1 == 0)) = true := by simp; omega
  rw [e, cond_true]
  have h0 := hn n
  generalize IntKind.wrap IntKind.u64 n = m at *
  rw [Int.tmod_eq_emod_of_nonneg h0]
  have h1 := Int.emod_nonneg m (b := high - low + 1) (by omega)
  have h2 := Int.emod_lt_of_pos m (b := high - low + 1) (by omega)
  generalize m % (high - low + 1) = k at *
  refine ⟨_, rfl, ?_⟩
  rw [wrap_id (x := k) (by omega) (by omega), wrap_id (by omega) (by omega)]
  omega
theorem Some_eq (c : yc) : ∃ d, y1x c = some d ∧ RightC d := by
  unfold y1x
  obtain ⟨a0, e0, h0⟩ := within_eq (n := c.Workers) (low := 1) (high := 64) (by omega)
  obtain ⟨a1, e1, h1⟩ := within_eq (n := c.CPUs) (low := 1) (high := 8) (by omega)
  obtain ⟨a2, e2, h2⟩ := within_eq (n := c.Pages) (low := 1) (high := 256) (by omega)
  obtain ⟨a3, e3, h3⟩ := within_eq (n := c.Stripes) (low := 1) (high := 64) (by omega)
  obtain ⟨a4, e4, h4⟩ := within_eq (n := c.Tries) (low := 0) (high := 16) (by omega)
  obtain ⟨a5, e5, h5⟩ := within_eq (n := c.Wait) (low := 0) (high := 64) (by omega)
  obtain ⟨a6, e6, h6⟩ := within_eq (n := c.Clock) (low := 1) (high := 1099511627776) (by omega)
  obtain ⟨a7, e7, h7⟩ := within_eq (n := c.Private) (low := 1) (high := 8) (by omega)
  obtain ⟨a8, e8, h8⟩ := within_eq (n := c.Cache) (low := 0) (high := 8) (by omega)
  obtain ⟨a9, e9, h9⟩ := within_eq (n := c.Bin) (low := 0) (high := 16) (by omega)
  obtain ⟨a10, e10, h10⟩ := within_eq (n := c.Batch) (low := 1) (high := 8) (by omega)
  rw [e0, e1, e2, e3, e4, e5, e6, e7, e8, e9, e10]
  exact ⟨_, rfl, h0, h1, h2, h3, h4, h5, h6, h7, h8, h9, h10⟩
section
variable {c : yc}
end
end Go.Rx
end

noncomputable section
namespace Go.Rx
open Go.Proofs
set_option maxRecDepth 100000
set_option maxHeartbeats 4000000
attribute [local irreducible] Loop ex exF contK roundK retK at_ bodyOf mkEnv exFW retW
end Go.Rx
end

section
namespace Go.Rx
open Go.Proofs
section
variable {d : yc} {Lr : y9r} {its B : List (List Int)} {ws : List Int}
variable {L : yb}
end
section
variable {d : yc} {its B : List (List Int)} {ws : List Int}
end
end Go.Rx
end

section
namespace Go.Rx
open Go.Proofs
section
variable {d : yc} {its B : List (List Int)} {ws : List Int}
end
end Go.Rx
end

noncomputable section
namespace Go.Rx
open Go.Proofs
set_option maxRecDepth 100000
set_option maxHeartbeats 4000000
def y3x (m_ : Y6) (args : List V) (H : Heap) (K : V → Heap → Prop) : Prop :=
  aC args fun a0 r => aC r fun a1 r => aN r <| aInt a0 fun user => aInt a1 fun a => aN H <| So (m_ user a) fun x => K (vi x) []
def y6l (m_ : Y6) : Spec := ⟨y3x m_, (true : Bool)⟩
abbrev Y15 := Int → ym → Option ym
def y5v (m_ : Y15) (args : List V) (H : Heap) (K : V → Heap → Prop) : Prop :=
  aC args fun a0 r => aC r fun a1 r => aN r <| aInt a0 fun user => aAgg a1 fun c1 => y2z c1 fun a => aN H <| So (m_ user a) fun x => K (.agg (y1l x)) []
def y57 (m_ : Y15) : Spec := ⟨y5v m_, (true : Bool)⟩
def y58 (m_ : Option Bool) (args : List V) (H : Heap) (K : V → Heap → Prop) : Prop :=
  aN args <| aN H <| So (m_ ) fun x => K (vb x) []
def y6y (m_ : Option Bool) : Spec := ⟨y58 m_, (true : Bool)⟩
def y6k  : Cfg := { cfgB with
  sigs := sigN }
def y7s (y1n : Y6) : Cfg := { cfgB with
  sigs := (sigC 13 (y6l y1n) sigN) }
def y88 (y0k : Y14) (y09 : Y12) (y1i : Y10) (yi : Y0) (yx : Y4) (yo : ye → T_api_Reply → yb → (List Int) → (List (List Int)) → Option (Bool × (List (List Int)) × (List Int))) (y0e : Y7) (y06 : Int → yb → (List Int) → (List (List Int)) → Option (Int × Int × Bool)) : Cfg := { cfgB with
  sigs := (sigC 9 (y3r y0k) (sigC 31 (y3c y09) (sigC 10 (y8r y1i) (sigC 23 (y1h yi) (sigC 15 (altNil (y38 yo) (y34 yx)) (sigC 21 (altNil (y36 y06) (y3l y0e)) sigN)))))) }
theorem y96 (user a : Int) (K : V → Heap → Prop) : (exF y6k Try.f13 [vi user, vi a] [] K) = (
    br (decide (a ≥ 1)) (br (decide (a ≤ 400)) (K (vi (IntKind.i64.wrap (IntKind.i64.wrap (user + a) - 1))) []) (K (vi a) [])) (K (vi a) [])) := by kernel_rfl
theorem yae (y1n : Y6) (user : Int) (a : ym) (K : V → Heap → Prop) : (exF (y7s y1n) Try.f14 [vi user, .agg (y1l a)] [] K) = (
    So (y1n user a.Call.Addr) (fun (y0 : Int) => (So (y1n user a.Reply.Addr) (fun (y1 : Int) => (K (.agg ([vi a.Call.Kind, vi y0, vi a.Call.Size, vi a.Call.Align, vi a.Call.Value, vi a.Reply.Err, vi y1, vi a.Reply.Size, vi a.Reply.Value] ++ y3n a.Reply.Stats)) []))))) := by kernel_rfl
theorem yan (y0k : Y14) (y09 : Y12) (y1i : Y10) (yi : Y0) (yx : Y4) (yo : ye → T_api_Reply → yb → (List Int) → (List (List Int)) → Option (Bool × (List (List Int)) × (List Int))) (y0e : Y7) (y06 : Int → yb → (List Int) → (List (List Int)) → Option (Int × Int × Bool)) (K : V → Heap → Prop) : (exF (y88 y0k y09 y1i yi yx yo y0e y06) Try.f8 [] [] K) = (
    So (y0k (yc.mk 0 0 0 0 0 0 0 0 0 0 0)) (fun (y0 : yc) => (So (y09 y0) (fun (y1 : yb × Int) => (So (y1i y0) (fun (y2 : Bool × Int × yb × List Int × List (List Int)) => (br y2.1 (So (yi y1.1) (fun (y3 : Int) => (So (yo (ye.mk 1 0 3 0 0) (T_api_Reply.mk 0 (IntKind.i64.wrap (y3 + 4)) 4 0 (ya.mk 0 0 0 0 0 0 0)) y2.2.2.1 y2.2.2.2.1 y2.2.2.2.2) (fun (y4 : Bool × List (List Int) × List Int) => (So (yo (ye.mk 1 0 3 0 0) (T_api_Reply.mk 0 (IntKind.i64.wrap (y3 + 6)) 4 0 (ya.mk 0 0 0 0 0 0 0)) y2.2.2.1 y4.2.2 y4.2.1) (fun (y5 : Bool × List (List Int) × List Int) => (So (y06 (IntKind.i64.wrap (y3 + 7)) y2.2.2.1 y5.2.2 y5.2.1) (fun (y6 : Int × Int × Bool) => (br (y1.2 == 0) (br (y2.2.1 == 0) (br y4.1 (br (!y5.1) (br (y6.1 == IntKind.i64.wrap (y3 + 4)) (br (y6.2.1 == 4) (K (vb y6.2.2) []) (K (vb false) [])) (K (vb false) [])) (K (vb false) [])) (K (vb false) [])) (K (vb false) [])) (K (vb false) [])))))))))) (So (yi y1.1) (fun (y7 : Int) => (So (yx (ye.mk 1 0 3 0 0) (T_api_Reply.mk 0 (IntKind.i64.wrap (y7 + 4)) 4 0 (ya.mk 0 0 0 0 0 0 0))) (fun (y8 : Bool) => (So (yx (ye.mk 1 0 3 0 0) (T_api_Reply.mk 0 (IntKind.i64.wrap (y7 + 6)) 4 0 (ya.mk 0 0 0 0 0 0 0))) (fun (y9 : Bool) => (So (y0e (IntKind.i64.wrap (y7 + 7))) (fun (y10 : Int × Int × Bool) => (br (y1.2 == 0) (br (y2.2.1 == 0) (br y8 (br (!y9) (br (y10.1 == IntKind.i64.wrap (y7 + 4)) (br (y10.2.1 == 4) (K (vb y10.2.2) []) (K (vb false) [])) (K (vb false) [])) (K (vb false) [])) (K (vb false) [])) (K (vb false) [])) (K (vb false) []))))))))))))))))) := by kernel_rfl
def y1n (user a : Int) : Option Int :=
  (bif (decide (a ≥ 1)) then (bif (decide (a ≤ 400)) then some (IntKind.i64.wrap (IntKind.i64.wrap (user + a) - 1)) else some a) else some a)
def yw (user : Int) (a : ym) : Option ym :=
  ((y1n user a.Call.Addr).bind fun y0 => ((y1n user a.Reply.Addr).bind fun y1 => some (ym.mk (ye.mk a.Call.Kind y0 a.Call.Size a.Call.Align a.Call.Value) (T_api_Reply.mk a.Reply.Err y1 a.Reply.Size a.Reply.Value a.Reply.Stats))))
def y07  : Option Bool :=
  ((y0k (yc.mk 0 0 0 0 0 0 0 0 0 0 0)).bind fun y0 => ((y09 y0).bind fun y1 => ((y1i y0).bind fun y2 => (bif y2.1 then ((yi y1.1).bind fun y3 => ((yo (ye.mk 1 0 3 0 0) (T_api_Reply.mk 0 (IntKind.i64.wrap (y3 + 4)) 4 0 (ya.mk 0 0 0 0 0 0 0)) y2.2.2.1 y2.2.2.2.1 y2.2.2.2.2).bind fun y4 => ((yo (ye.mk 1 0 3 0 0) (T_api_Reply.mk 0 (IntKind.i64.wrap (y3 + 6)) 4 0 (ya.mk 0 0 0 0 0 0 0)) y2.2.2.1 y4.2.2 y4.2.1).bind fun y5 => ((y06 (IntKind.i64.wrap (y3 + 7)) y2.2.2.1 y5.2.2 y5.2.1).bind fun y6 => (bif (y1.2 == 0) then (bif (y2.2.1 == 0) then (bif y4.1 then (bif (!y5.1) then (bif (y6.1 == IntKind.i64.wrap (y3 + 4)) then (bif (y6.2.1 == 4) then some y6.2.2 else some false) else some false) else some false) else some false) else some false) else some false))))) else ((yi y1.1).bind fun y7 => ((yx (ye.mk 1 0 3 0 0) (T_api_Reply.mk 0 (IntKind.i64.wrap (y7 + 4)) 4 0 (ya.mk 0 0 0 0 0 0 0))).bind fun y8 => ((yx (ye.mk 1 0 3 0 0) (T_api_Reply.mk 0 (IntKind.i64.wrap (y7 + 6)) 4 0 (ya.mk 0 0 0 0 0 0 0))).bind fun y9 => ((y0e (IntKind.i64.wrap (y7 + 7))).bind fun y10 => (bif (y1.2 == 0) then (bif (y2.2.1 == 0) then (bif y8 then (bif (!y9) then (bif (y10.1 == IntKind.i64.wrap (y7 + 4)) then (bif (y10.2.1 == 4) then some y10.2.2 else some false) else some false) else some false) else some false) else some false) else some false)))))))))
attribute [local irreducible] Loop ex exF contK roundK retK at_ bodyOf mkEnv
theorem y9b : SpecOK Try.prog elTT 13 (y6l y1n) := by
  refine spec_of_exF (cfg := y6k) (yr rfl rfl rfl) yu (fn := Try.f13) (by kernel_rfl) (by kernel_rfl) (by kernel_rfl) ?_
  intro args H K h
  change y3x y1n args H K at h
  unfold y3x at h
  repeat first | (obtain ⟨_, h⟩ := h) | replace h := Des.el h
  subst_vars
  refine Eq.mpr (y96 _ _ K) ?_
  unfold y1n at h
  revert h
  exact br_So (br_So (fun h => h) (fun h => h)) (fun h => h)
theorem y7k : SpecOK Try.prog elTT 14 (y57 yw) := by
  refine spec_of_exF (cfg := (y7s y1n)) (yr rfl rfl rfl) (yk y9b yu) (fn := Try.f14) (by kernel_rfl) (by kernel_rfl) (by kernel_rfl) ?_
  intro args H K h
  change y5v yw args H K at h
  unfold y5v at h
  repeat first | (obtain ⟨_, h⟩ := h) | replace h := Des.el h
  subst_vars
  refine Eq.mpr (yae y1n _ _ K) ?_
  unfold yw at h
  revert h
  exact bind_So fun y0 => bind_So fun y1 => fun h => h
theorem yag : SpecOK Try.prog elTT 8 (y6y y07) := by
  refine spec_of_exF (cfg := (y88 y0k y09 y1i yi yx yo y0e y06)) (yr rfl rfl rfl) (yk y7w (yk y5s (yk y6s (yk y2j (yk (altNil_ok y4e y64) (yk (altNil_ok y4v y5f) yu)))))) (fn := Try.f8) (by kernel_rfl) (by kernel_rfl) (by kernel_rfl) ?_
  intro args H K h
  change y58 y07 args H K at h
  unfold y58 at h
  repeat first | (obtain ⟨_, h⟩ := h) | replace h := Des.el h
  subst_vars
  refine Eq.mpr (yan y0k y09 y1i yi yx yo y0e y06  K) ?_
  unfold y07 at h
  revert h
  exact bind_So fun y0 => bind_So fun y1 => bind_So fun y2 => br_So (bind_So fun y3 => bind_So fun y4 => bind_So fun y5 => bind_So fun y6 => br_So (br_So (br_So (br_So (br_So (br_So (fun h => h) (fun h => h)) (fun h => h)) (fun h => h)) (fun h => h)) (fun h => h)) (fun h => h)) (bind_So fun y7 => bind_So fun y8 => bind_So fun y9 => bind_So fun y10 => br_So (br_So (br_So (br_So (br_So (br_So (fun h => h) (fun h => h)) (fun h => h)) (fun h => h)) (fun h => h)) (fun h => h)) (fun h => h))
end Go.Rx
end

section
namespace Go.Rx
open Go.Proofs
theorem Small20 (c : yc) : ∃ d, y0k c = some d ∧ RightC d := by
  obtain ⟨d, h1, h2⟩ := Some_eq c
  unfold y0k
  rw [h1, Option.bind_some]
  refine ⟨_, rfl, ?_⟩
  obtain ⟨a, b, d', e, f, g, h', i, j, k, l⟩ := h2
  have md : ∀ x m : Int, 0 ≤ x → 0 < m → m ≤ 10 → Int.tmod x m = x % m ∧ 0 ≤ x % m ∧ x % m < m := fun x m h1 h2 h3 => ⟨Int.tmod_eq_emod_of_nonneg h1, Int.emod_nonneg _ (by omega), Int.emod_lt_of_pos _ h2⟩
  have m1 := md d.Workers 4 (by omega) (by omega) (by omega)
  have m2 := md d.CPUs 2 (by omega) (by omega) (by omega)
  have m3 := md d.Pages 9 (by omega) (by omega) (by omega)
  have m4 := md d.Stripes 4 (by omega) (by omega) (by omega)
  have m5 := md d.Private 3 (by omega) (by omega) (by omega)
  have m6 := md d.Cache 3 (by omega) (by omega) (by omega)
  have m7 := md d.Bin 4 (by omega) (by omega) (by omega)
  have m8 := md d.Batch 3 (by omega) (by omega) (by omega)
  simp only [m1.1, m2.1, m3.1, m4.1, m5.1, m6.1, m7.1, m8.1]
  simp (disch := omega) only [wrap_id]
  exact ⟨by simp only; omega, by simp only; omega, by simp only; omega, by simp only; omega, f, g, h', by simp only; omega, by simp only; omega, by simp only; omega, by simp only; omega⟩
theorem New_eq (c : yc) : y1i c = some (if RightC c then (true, 0, layC c, List.replicate (c.Pages * 32).toNat 0, []) else (false, 2, ⟨⟨0,0,0,0,0,0,0,0,0,0,0⟩,0,0,0,0,0,0,0,0,0,0,0,0⟩, [], [])) := by
  unfold y1i
  rw [Of_eq, Option.bind_some]
  by_cases h : RightC c
  · have hb := (layC_ok h).big; have h11 := (layC_ok h).a11; have hp := (layC_ok h).pages
    have e : (layC c).c = c := rfl
    rw [e] at h11 hp
    rw [if_pos h, if_pos h]
    simp only [bne_self_eq_false, cond_false]
    rw [Words_eq, Option.bind_some, User_eq, Option.bind_some, wrap_id (by omega) (by omega), show (layC c).at_11 - (layC c).at_10 = c.Pages * 32 by omega, decide_eq_true (by omega)]; rfl
  · rw [if_neg h, if_neg h]; rfl
theorem NewR_eq {c : yc} (h : RightC c) : (y1i c).bind (fun x => bif x.1 then some x.2 else none) = some (0, layC c, List.replicate (c.Pages * 32).toNat 0, []) := by
  rw [New_eq, if_pos h]; rfl
theorem nil_SOK {c : yc} (h : RightC c) : SOK (layC c) [] := ⟨layC_ok h, by simp, List.Pairwise.nil⟩
theorem rep_len {c : yc} (h : RightC c) : ((List.replicate (c.Pages * 32).toNat (0 : Int)).length : Int) = (layC c).at_11 - (layC c).at_10 := by
  have h11 := (layC_ok h).a11; have hp := (layC_ok h).pages
  have e : (layC c).c = c := rfl
  rw [e] at h11 hp
  rw [List.length_replicate]; omega
theorem lives_ok : y07 = some true := by
  obtain ⟨d, h1, h2⟩ := Small20 ⟨0, 0, 0, 0, 0, 0, 0, 0, 0, 0, 0⟩
  have hL := layC_ok h2
  have hb := hL.big; have h11 := hL.a11; have hp := hL.pages
  unfold y07
  rw [h1, Option.bind_some, Of_eq, if_pos h2, Option.bind_some, New_eq, if_pos h2, Option.bind_some, cond_true, User_eq, Option.bind_some]
  simp only
  generalize hu : (layC d).at_10 = u at *
  have w1 : IntKind.wrap IntKind.i64 (u + 4) = u + 4 := wrap_id (by omega) (by omega)
  have w2 : IntKind.wrap IntKind.i64 (u + 6) = u + 6 := wrap_id (by omega) (by omega)
  have w3 : IntKind.wrap IntKind.i64 (u + 7) = u + 7 := wrap_id (by omega) (by omega)
  rw [w1, w2, w3]
  have hw := rep_len h2
  generalize List.replicate (d.Pages * 32).toNat (0 : Int) = ws at *
  have hrnd : rndI 3 1 = 4 := rfl
  have hcrb : ∀ a, CRB ⟨1, 0, 3, 0, 0⟩ ⟨0, a, 4, 0, ⟨0, 0, 0, 0, 0, 0, 0⟩⟩ := fun a => ⟨by simp, by simp, by simp [statB]⟩
  have hask : askI ⟨1, 0, 3, 0, 0⟩ = 0 := rfl
  have e8 : ∀ a, eqR ⟨0, a, 4, 0, ⟨0, 0, 0, 0, 0, 0, 0⟩⟩ 8 0 0 0 = false := fun a => rfl
  have e6 : ∀ a, eqR ⟨0, a, 4, 0, ⟨0, 0, 0, 0, 0, 0, 0⟩⟩ 6 0 0 0 = false := fun a => rfl
  have st : ∀ its a, stepR (layC d) its ws ⟨1, 0, 3, 0, 0⟩ ⟨0, a, 4, 0, ⟨0, 0, 0, 0, 0, 0, 0⟩⟩ = bif !fitB (layC d) its ⟨1, 0, 3, 0, 0⟩ ⟨0, a, 4, 0, ⟨0, 0, 0, 0, 0, 0, 0⟩⟩ then (false, its, ws) else (true, putL its [a, 3, 4], ws) := by
    intro its a
    unfold stepR freshR
    rw [e8, e6, hask]; rfl
  have f1 : fitB (layC d) [] ⟨1, 0, 3, 0, 0⟩ ⟨0, u + 4, 4, 0, ⟨0, 0, 0, 0, 0, 0, 0⟩⟩ = true := by
    unfold fitB
    rw [show alI ⟨1, 0, 3, 0, 0⟩ = 1 from rfl, show (⟨1, 0, 3, 0, 0⟩ : ye).Size = 3 from rfl, hrnd, hu]
    simp only
    rw [decide_eq_true (show u ≤ u + 4 ∧ u + 4 < (layC d).at_11 by omega), decide_eq_true (show (4 : Int) ≤ (layC d).at_11 - (u + 4) by omega), Int.tmod_one]
    simp [eqR, freeB]
  have f2 : fitB (layC d) [[u + 4, 3, 4]] ⟨1, 0, 3, 0, 0⟩ ⟨0, u + 6, 4, 0, ⟨0, 0, 0, 0, 0, 0, 0⟩⟩ = false := by
    unfold fitB
    rw [show alI ⟨1, 0, 3, 0, 0⟩ = 1 from rfl, show (⟨1, 0, 3, 0, 0⟩ : ye).Size = 3 from rfl, hrnd]
    have : freeB [[u + 4, 3, 4]] (u + 6) (4 : Int).toNat = false := by
      refine freeB_false (i := 0) (by decide) ?_
      have hh : hasW [u + 4, 3, 4] (u + 6) := by
        show u + 4 ≤ _ ∧ _ < u + 4 + 4; omega
      simp [hh]
    simp only
    rw [this]; simp
  have s0 := nil_SOK h2
  rw [Step_eq s0 (by simp) hw (hcrb _), Option.bind_some, st, f1]
  simp only [Bool.not_true, cond_false]
  have ep : putL [] [u + 4, 3, 4] = [[u + 4, 3, 4]] := rfl
  rw [ep]
  have s1 : SOK (layC d) [[u + 4, 3, 4]] := by
    refine ⟨hL, fun x hx => ?_, List.pairwise_singleton _ _⟩
    simp at hx; subst hx
    exact ⟨rfl, by show _ ≤ u + 4; omega, by show (1 : Int) ≤ 4; omega, by show u + 4 + 4 ≤ _; omega, by show (0 : Int) ≤ 3 ∧ (3 : Int) ≤ 4; omega⟩
  rw [Step_eq s1 (by simp) hw (hcrb _), Option.bind_some, st, f2]
  simp only [Bool.not_false, cond_true]
  rw [Block_eq s1 (by simp) (by omega), Option.bind_some, show blkA [[u + 4, 3, 4]] (u + 7) = (u + 4, 4, true) from blkA_at (A := []) (b := [u + 4, 3, 4]) (C := []) (by simp) (by show u + 4 ≤ _ ∧ _ < u + 4 + 4; omega)]
  simp
end Go.Rx
end

section
namespace Go.Rx
open Go.Proofs
section
variable {d : yc} {its B : List (List Int)} {ws : List Int}
theorem pairs_len (l : List (List Int)) : (pairs l).length = l.length := by simp [pairs]
end
theorem Same_self (x : List Pr) (hx : x.length ≤ 4611686018427387904) : y03 x x = some true := by
  obtain ⟨r, h1, h2⟩ := scanS (step := fun s => y2p x x s) (l := x) (fun A => (A.length : Int)) (fun _ => True) (fun r => r = true)
    (fun A b C e _ => by
      left
      refine ⟨?_, trivial⟩
      have hlt : decide ((A.length : Int) < (x.length : Int)) = true := by rw [e]; exact mid_lt A b C
      have hl : A.length < x.length := by rw [e]; simp
      have hi : inR (A.length : Int) x.length = true := by rw [e]; exact mid_in A b C
      simp only [y2p, hlt, cond_true, offs0, hi, beq_self_eq_true, Bool.and_self, Bool.not_true, cond_false]
      rw [wrap_succ (by omega)]; simp)
    (fun _ => ⟨_, by
      simp only [y2p]
      rw [decide_eq_false (by omega), cond_false], rfl⟩)
    trivial
  unfold y03 y5k
  rw [show ((x.length : Int) != (x.length : Int)) = false by simp, cond_false]
  have h1 : loopO (fun s => y2p x x s) 0 = some r := h1
  rw [h1, h2]
def I64 (x : Int) : Prop := -9223372036854775808 ≤ x ∧ x ≤ 9223372036854775807
def layI (u a : Int) : Int := if 1 ≤ a ∧ a ≤ 400 then u + a - 1 else a
theorem lay20_eq {u a : Int} (hu : 0 ≤ u ∧ u ≤ 100000) : y1n u a = some (layI u a) := by
  unfold y1n layI
  by_cases h1 : 1 ≤ a
  · by_cases h2 : a ≤ 400
    · rw [decide_eq_true (show a ≥ 1 from h1), decide_eq_true h2, if_pos ⟨h1, h2⟩, wrap_id (x := u + a) (by omega) (by omega), wrap_id (by omega) (by omega)]; rfl
    · rw [decide_eq_true (show a ≥ 1 from h1), decide_eq_false h2, if_neg (fun h => h2 h.2)]; rfl
  · rw [decide_eq_false (show ¬ a ≥ 1 from h1), if_neg (fun h => h1 h.1)]; rfl
theorem layI_b {u a : Int} (hu : 0 ≤ u ∧ u ≤ 100000) (ha : I64 a) : I64 (layI u a) := by
  unfold layI I64 at *; split <;> omega
def actC (e : List Int) : ye := ⟨e.getD 0 0, e.getD 1 0, e.getD 2 0, e.getD 3 0, e.getD 4 0⟩
def actR (e : List Int) : T_api_Reply := ⟨e.getD 5 0, e.getD 6 0, e.getD 7 0, e.getD 8 0, ⟨e.getD 9 0, e.getD 10 0, e.getD 11 0, e.getD 12 0, e.getD 13 0, e.getD 14 0, e.getD 15 0⟩⟩
def mCall (u : Int) (c : ye) : ye := ⟨c.Kind, layI u c.Addr, c.Size, c.Align, c.Value⟩
def mRep (u : Int) (r : T_api_Reply) : T_api_Reply := ⟨r.Err, layI u r.Addr, r.Size, r.Value, r.Stats⟩
theorem meant_eq {u : Int} (hu : 0 ≤ u ∧ u ≤ 100000) (c : ye) (r : T_api_Reply) : yw u ⟨c, r⟩ = some ⟨mCall u c, mRep u r⟩ := by
  unfold yw
  rw [lay20_eq hu, Option.bind_some, lay20_eq hu, Option.bind_some]; rfl
def ActOK (e : List Int) : Prop := ∀ i, i < 16 → I64 (e.getD i 0)
theorem ActOK.crb {e : List Int} (h : ActOK e) {u : Int} (hu : 0 ≤ u ∧ u ≤ 100000) : CRB (mCall u (actC e)) (mRep u (actR e)) := by
  have b := fun i hi => (h i hi).2
  exact ⟨layI_b hu (h 1 (by omega)), b 2 (by omega), ⟨⟨b 9 (by omega), b 10 (by omega)⟩, ⟨b 11 (by omega), b 12 (by omega)⟩, b 13 (by omega)⟩⟩
theorem etaL (L : yb) : yb.mk (yc.mk L.c.Workers L.c.CPUs L.c.Pages L.c.Stripes L.c.Tries L.c.Wait L.c.Clock L.c.Private L.c.Cache L.c.Bin L.c.Batch) L.at_0 L.at_1 L.at_2 L.at_3 L.at_4 L.at_5 L.at_6 L.at_7 L.at_8 L.at_9 L.at_10 L.at_11 = L := rfl
end Go.Rx
end

section
namespace Go.Rx
open Go.ChangeShapes Go.WideShapes Go.ChangeAt Go.RowKit
inductive AK where
  | row (tg : Nat)
  | el (tg : Nat)
def elWf (tg : Nat) (e : El tg) : Prop := ∀ k n, Value.int k n ∈ elEnc tg e → (Lit.int k n).wf = true
def elV : (tg : Nat) → El tg → V
  | 0, (n : Int) => vi n
  | 1, (b : Bool) => vb b
  | t, e => .agg ((elEnc t e).map .ext)
def ArgsOf : List AK → Nat → List V → Heap → Prop
  | [], _, ags, H => ags = [] ∧ H = []
  | .row tg :: ks, n, ags, H => ∃ (l : List (El tg)) (ags' : List V) (H' : Heap), ags = .row n :: ags' ∧ H = .row tg l true :: H' ∧ (∀ e ∈ l, elWf tg e) ∧ l.length ≤ maxLen ∧ ArgsOf ks (n + 1) ags' H'
  | .el tg :: ks, n, ags, H => ∃ (e : El tg) (ags' : List V), ags = elV tg e :: ags' ∧ elWf tg e ∧ ArgsOf ks n ags' H
def lawS (ks : List AK) : Spec where
  tr := fun args H K => ArgsOf ks 0 args H ∧ ∀ H', K (vb true) H'
section
variable {P : Program} {elT : ET}
structure ElOK (P : Program) (elT : ET) (tg : Nat) : Prop where
  cells : P.cellsOf (elT tg) = elM tg
  reads : ∀ {H : Type} (enc : TypeId × Value → H) (W : World) (base : Nat) (sp : Nat → Bool) (held : Bool) (fuel : Nat) (cs : List Value) (x : DataW H × List MemPlace),
    DataW.trod enc P W base sp held fuel (elT tg) cs = some x → ∃ e : El tg, cs = elEnc tg e ∧ elWf tg e
  value : ∀ (W : World) (r : Reach) (b : Nat) (v : Value) (e : El tg), Value.okWide P W r b (elT tg) v → v.cells.toList = elEnc tg e → ∀ ρ, (elV tg e).den ρ = some v
variable {H : Type} {enc : TypeId × Value → H} {W : World} {sp : Nat → Bool} {held : Bool}
theorem open_row {tg : Nat} (ok : ElOK P elT tg) {t : TypeId} (ht : P.underlying t = some (.slice (elT tg))) {r : Reach} {b0 : Nat} {v : Value} {d : DataW H} {ps : List MemPlace}
    (hval : Value.okWide P W r b0 t v) (hd : DataW.Trod enc P W 0 sp held t v d ps) :
    ∃ (l : List (El tg)) (F : List Nat), (∀ n ∈ F, n < W.heap.size) ∧ (∀ e ∈ l, elWf tg e) ∧ l.length ≤ maxLen ∧ (∃ a cap, v = .slice a l.length cap) ∧ ∀ ρ, (Blk.row tg l true).holds elT ρ W v F := by
  obtain ⟨a, len, cap, rfl⟩ := okWide_slice ht hval
  obtain ⟨fuel, hf⟩ := hd
  rcases Deep.open_slice ht hf with ⟨h, _⟩ | ⟨ad, len', cap', m, n, D, Pl, h, _, hl, hm, hmm, _, hx⟩
  · simp [Value.cells] at h
    obtain ⟨rfl, rfl, rfl⟩ := h
    exact ⟨[], [], by simp, by simp, Nat.zero_le _, ⟨none, 0, rfl⟩, fun ρ => ⟨none, 0, rfl, Nat.le_refl _, Nat.zero_le _, fun _ => rfl, fun j x hj => by simp [flat] at hj⟩⟩
  · simp [Value.cells] at h
    obtain ⟨rfl, rfl, rfl⟩ := h
    have hlm : len ≤ m := by rw [hmm]; split <;> omega
    have key : ∀ i, i < len → ∃ e : El tg, W.cells? 0 (ad.add (i * elM tg)) (elM tg) = some (elEnc tg e) ∧ elWf tg e := by
      intro i hi
      obtain ⟨cs', h1, h2⟩ := hx i (by omega)
      rw [ok.cells] at h1
      obtain ⟨e, he, hw⟩ := ok.reads enc W 0 sp held n cs' _ h2
      exact ⟨e, by rw [h1, he], hw⟩
    haveI : Inhabited (El tg) := ⟨elD tg⟩
    obtain ⟨E, hE⟩ := Deep.choose_lt key
    refine ⟨(List.range len).map E, if ad.block < W.heap.size then [ad.block] else [], ?_, ?_, by simp; omega, ⟨some ad, cap, by simp⟩, fun ρ => ⟨some ad, cap, by simp, by simpa using hl, hm, (fun h => by cases h), fun j x hj => ?_⟩⟩
    · intro n hn
      split at hn
      · rename_i hb; simp at hn; omega
      · simp at hn
    · intro e he
      obtain ⟨i, hi, rfl⟩ := List.mem_map.1 he
      exact (hE i (by simpa using hi)).2
    · have hjl : j < len * elM tg := by
        have := (List.getElem?_eq_some_iff.1 hj).1
        rw [flat_len] at this; simpa using this
      have hM : 0 < elM tg := by
        rcases Nat.eq_zero_or_pos (elM tg) with h | h
        · rw [h] at hjl; simp at hjl
        · exact h
      have hk : j / elM tg < len := (Nat.div_lt_iff_lt_mul hM).2 hjl
      have hr : j % elM tg < elM tg := Nat.mod_lt _ hM
      have hje : j = j / elM tg * elM tg + j % elM tg := by rw [Nat.mul_comm]; exact (Nat.div_add_mod _ _).symm
      rw [hje, flat_get tg _ _ (by simpa using hk) _ hr] at hj
      have hg : ((List.range len).map E).getD (j / elM tg) (elD tg) = E (j / elM tg) := by simp [List.getD, hk]
      rw [hg] at hj
      obtain ⟨_, _, hc⟩ := World.cells?_some (hE _ hk).1
      have := hc _ hr
      rw [hj, Deep.add_add, ← hje] at this
      refine ⟨ad, rfl, ?_, this⟩
      have hb : (ad.add j).block = ad.block := block_add ad j
      have hlt : ad.block < W.heap.size := by
        rcases Nat.lt_or_ge ad.block W.heap.size with h | h
        · exact h
        · rw [← hb] at h
          simp [World.cell?, Array.getElem?_eq_none h] at this
      simp [hlt]
def AKOK (P : Program) (elT : ET) : AK → TypeId → Prop
  | .row tg, t => P.underlying t = some (.slice (elT tg)) ∧ ElOK P elT tg
  | .el tg, t => t = elT tg ∧ ElOK P elT tg
def AKsOK (P : Program) (elT : ET) : List AK → List TypeId → Prop
  | [], [] => True
  | k :: ks, t :: ts => AKOK P elT k t ∧ AKsOK P elT ks ts
  | _, _ => False
theorem open_args : ∀ (ks : List AK) (ts : List TypeId) (vs : List Value) (ds : List (DataW H)) (ps : List MemPlace) (r : Reach) (b0 : Nat), AKsOK P elT ks ts →
    (∀ (j : Nat) t v, ts[j]? = some t → vs[j]? = some v → Value.okWide P W r b0 t v) → DataW.TrodAll enc P W 0 sp held ts vs ds ps → ∀ (ρ : List Value) (F : Nat → List Nat) (H0 : Heap), Sat elT ρ F H0 W → (∀ b ∈ H0, b.writable = false) →
    ∃ (ags : List V) (H1 : Heap) (ρ' : List Value) (F' : Nat → List Nat), ArgsOf ks ρ.length ags H1 ∧ denL ρ' ags = some vs ∧ Sat elT ρ' F' (H0 ++ H1) W ∧ (∀ b ∈ H0 ++ H1, b.writable = false) ∧ Le ρ ρ'
  | [], ts, vs, ds, ps, r, b0, hk, _, hd, ρ, F, H0, hs, hw => by
    cases ts with
    | cons t ts => exact hk.elim
    | nil =>
      obtain ⟨rfl, rfl, rfl⟩ := trodAll_nil hd
      exact ⟨[], [], ρ, F, ⟨rfl, rfl⟩, rfl, by simpa using hs, by simpa using hw, Le.refl ρ⟩
  | k :: ks, ts, vs, ds, ps, r, b0, hk, hval, hd, ρ, F, H0, hs, hw => by
    cases ts with
    | nil => exact hk.elim
    | cons t ts =>
      obtain ⟨hk1, hk2⟩ := hk
      obtain ⟨v, vs', d, ds', p, q, rfl, rfl, rfl, h1, h2⟩ := trodAll_cons hd
      have hv := hval 0 t v rfl rfl
      have hval' : ∀ (j : Nat) t v, ts[j]? = some t → vs'[j]? = some v → Value.okWide P W r b0 t v := fun j t v a b => hval (j + 1) t v (by simpa using a) (by simpa using b)
      cases k with
      | row tg =>
        obtain ⟨ht, ok⟩ := hk1
        obtain ⟨l, G, hG, hwf, hml, ⟨a, cap, hv2⟩, hh⟩ := open_row ok ht hv h1
        have hlen := hs.len
        have hs1 : Sat elT (ρ ++ [v]) (fset F H0.length G) (H0 ++ [.row tg l true]) W := by
          refine ⟨by simp [hlen], ?_, ?_, ?_⟩
          · intro i b x hb hx
            rcases push_get hb with ⟨hi, hb⟩ | ⟨rfl, rfl⟩
            · have hx' : ρ[i]? = some x := by rw [List.getElem?_append_left (by omega)] at hx; exact hx
              have e : fset F H0.length G i = F i := by unfold fset; rw [if_neg (by omega)]
              rw [e]
              exact Blk.holds_le (by intro i x h; exact List.getElem?_append_left (List.getElem?_eq_some_iff.1 h).1 ▸ h) (fun _ _ => rfl) b (hs.each i b x hb hx')
            · have hx' : x = v := by
                rw [List.getElem?_append_right (by omega)] at hx
                rw [show H0.length - ρ.length = 0 by omega] at hx
                simpa using hx.symm
              subst hx'
              have e : fset F H0.length G H0.length = G := by simp [fset]
              rw [e]
              exact hh _
          · intro i b hb n hn
            rcases push_get hb with ⟨hi, hb⟩ | ⟨rfl, rfl⟩
            · have e : fset F H0.length G i = F i := by unfold fset; rw [if_neg (by omega)]
              rw [e] at hn
              exact hs.lt i b hb n hn
            · have e : fset F H0.length G H0.length = G := by simp [fset]
              rw [e] at hn
              exact hG n hn
          · intro i j bi bj hbi hbj hij hwi
            exfalso
            have hm := List.mem_of_getElem? hbi
            rcases List.mem_append.1 hm with hm | hm
            · rw [hw bi hm] at hwi; cases hwi
            · simp at hm; subst hm; cases hwi
        have hw1 : ∀ b ∈ H0 ++ [Blk.row tg l true], b.writable = false := by
          intro b hb
          rcases List.mem_append.1 hb with hb | hb
          · exact hw b hb
          · simp at hb; subst hb; rfl
        obtain ⟨ags, H1, ρ', F', g1, g2, g3, g4, g5⟩ := open_args ks ts vs' ds' q r b0 hk2 hval' h2 _ _ _ hs1 hw1
        have hρ : ρ'[ρ.length]? = some v := g5 _ _ (by simp)
        refine ⟨.row ρ.length :: ags, .row tg l true :: H1, ρ', F', ⟨l, ags, H1, rfl, rfl, hwf, hml, by simpa using g1⟩, ?_, by simpa using g3, by simpa using g4, ?_⟩
        · have e : (V.row ρ.length).den ρ' = some v := by subst hv2; simp only [V.den, hρ]
          simp only [denL, e, g2]
        · intro i x hx
          exact g5 i x (by rw [List.getElem?_append_left (List.getElem?_eq_some_iff.1 hx).1]; exact hx)
      | el tg =>
        obtain ⟨rfl, ok⟩ := hk1
        obtain ⟨fuel, hf⟩ := h1
        obtain ⟨e, he, hwf⟩ := ok.reads enc W 0 sp held fuel _ _ hf
        obtain ⟨ags, H1, ρ', F', g1, g2, g3, g4, g5⟩ := open_args ks ts vs' ds' q r b0 hk2 hval' h2 ρ F H0 hs hw
        refine ⟨elV tg e :: ags, H1, ρ', F', ⟨e, ags, rfl, hwf, g1⟩, ?_, g3, g4, g5⟩
        simp only [denL, ok.value W r b0 v e hv he ρ', g2]
theorem trodAll_stays (hl : laidOutB P = true) {W' : World} {sp' : Nat → Bool} : ∀ {ts : List TypeId} {vs : List Value} {ds : List (DataW H)} {ps : List MemPlace}, ts.all (fun t => P.readableRec t && decide (t < P.types.size)) = true →
    DataW.TrodAll enc P W 0 (fun _ => true) true ts vs ds ps → (∀ x ∈ ps, W.sameAt W' x) → (∀ x ∈ ps, sp' x.block = true) → DataW.TrodAll enc P W' 0 sp' true ts vs ds ps
  | [], vs, ds, ps, _, h, _, _ => by
    obtain ⟨rfl, rfl, rfl⟩ := trodAll_nil h
    rfl
  | t :: ts, vs, ds, ps, hr, h, h1, h2 => by
    obtain ⟨v, vs', d, ds', p, q, rfl, rfl, rfl, g1, g2⟩ := trodAll_cons h
    simp only [List.all_cons, Bool.and_eq_true, decide_eq_true_eq] at hr
    exact ⟨p, q, WideElems.Trod_stays hl hr.1.1 hr.1.2 g1 (fun x hx => h1 x (by simp [hx])) (fun x hx => h2 x (by simp [hx])),
      trodAll_stays hl hr.2 g2 (fun x hx => h1 x (by simp [hx])) (fun x hx => h2 x (by simp [hx])), rfl⟩
theorem post_law {f : Func} {s : ChangeSpec} {apart fresh handsOn : Bool} {tb : TypeId} (hl : laidOutB P = true) (htb : P.underlying tb = some .bool) (hres : f.resultTypes = #[tb]) (hall : f.params.toList.all (fun t => P.readableRec t && decide (t < P.types.size)) = true)
    (hsv : s.vars = []) (hsp : ∀ ds : List (DataW H), ds.length = f.params.toList.length → s.fn H ds = { results := [.lit (.bool true)], args := ds })
    {W W' : World} {args : Array Value} {ds gs : List (DataW H)} {before : List MemPlace} (hW : DataW.Whole enc P f.params.toList s.vars apart W args.toList ds gs before) (hb : Below W.heap.size W W') :
    s.post enc P f apart fresh handsOn false W args (.bool true) W' := by
  have hlt : ∀ p ∈ before, p.block < W.heap.size := fun p hp => hW.lt p hp
  have hW' := hW
  obtain ⟨p, q, hA, hV, rfl, hfz, hnd⟩ := hW
  rw [hsv] at hV
  obtain ⟨rfl, rfl⟩ := trodVars_none hV
  have hlen : ∀ (ts : List TypeId) (vs : List Value) (ds : List (DataW H)) (ps : List MemPlace), DataW.TrodAll enc P W 0 (fun _ => true) true ts vs ds ps → ds.length = ts.length := by
    intro ts
    induction ts with
    | nil => intro vs ds ps h; obtain ⟨rfl, rfl, rfl⟩ := trodAll_nil h; rfl
    | cons t ts ih =>
      intro vs ds ps h
      obtain ⟨v, vs', d, ds', p, q, rfl, rfl, rfl, g1, g2⟩ := trodAll_cons h
      simp [ih _ _ _ g2]
  have hfn : s.fn H (ds ++ []) = { results := [.lit (.bool true)], args := ds } := by rw [List.append_nil]; exact hsp ds (hlen _ _ _ _ hA)
  refine ⟨ds, [], p ++ [], [], p, [], hW', ?_, ?_, ?_, hb.frame _, fun h => by cases h⟩
  · rw [hfn, hres]
    exact trodAll_mk1 (shut_bool htb true)
  · rw [hfn]
    exact trodAll_stays hl hall hA (fun x hx => hb.same (hlt x (by simpa using hx))) (fun x hx => by simpa using hlt x (by simpa using hx))
  · rw [hfn, hsv]
    rfl
theorem ya8 {f : Func} {s : ChangeSpec} {apart fresh handsOn : Bool} {tb : TypeId} {g : FuncId} {ks : List AK} (hspec : SpecOK P elT g (lawS ks)) (hk : AKsOK P elT ks f.params.toList)
    (hl : laidOutB P = true) (htb : P.underlying tb = some .bool) (hres : f.resultTypes = #[tb]) (hall : f.params.toList.all (fun t => P.readableRec t && decide (t < P.types.size)) = true)
    (hsv : s.vars = []) (hsp : ∀ ds : List (DataW H), ds.length = f.params.toList.length → s.fn H ds = { results := [.lit (.bool true)], args := ds })
    {W : World} {r : Reach} {base : Nat} {args : Array Value} {ds gs : List (DataW H)} {before : List MemPlace} (hval : ∀ (j : Nat) t v, f.params[j]? = some t → args[j]? = some v → Value.okWide P W r base t v)
    (hW : DataW.Whole enc P f.params.toList s.vars apart W args.toList ds gs before) :
    Calls P g args W fun e W' => ∃ v, e = .returned v ∧ s.post enc P f apart fresh handsOn false W args v W' := by
  have hW' := hW
  obtain ⟨p, q, hA, _⟩ := hW
  have h0 : Sat elT [] (fun _ => []) [] W := ⟨rfl, fun i b x hb => by simp at hb, fun i b hb => by simp at hb, fun i j bi bj hb => by simp at hb⟩
  obtain ⟨ags, H1, ρ, F, g1, g2, g3, g4, _⟩ := open_args ks f.params.toList args.toList ds p r base hk (fun j t v a b => hval j t v (by simpa using a) (by simpa using b)) hA [] (fun _ => []) [] h0 (by simp)
  have hc := hspec.2 ags H1 (fun v _ => v = vb true) ⟨g1, fun _ => rfl⟩ ρ F W args.toList g2 (by simpa using g3)
  rw [Array.toArray_toList] at hc
  refine hc.mono fun e W' h => ?_
  obtain ⟨v, x, ρ', F', H', rfl, rfl, hr, _, _, hfr⟩ := h
  have hx : x = .bool true := den_ext hr
  subst hx
  have hnw : ∀ (i : Nat) (b : Blk), H1[i]? = some b → b.writable = true → False := fun i b hb hw => by
    have := g4 b (by simpa using List.mem_of_getElem? hb)
    rw [this] at hw; cases hw
  have hb : Below W.heap.size W W' := ⟨hfr.os, hfr.tape, hfr.output, hfr.size, fun n hn => hfr.block n hn (fun i b hb hw => (hnw i b hb hw).elim)⟩
  exact ⟨_, rfl, post_law hl htb hres hall hsv hsp hW' hb⟩
end
def flatFs (P : Program) (rec : TypeId → Option (List Bool)) : List Field → Nat → Option (List Bool)
  | [], _ => some []
  | f :: fs, o => match rec f.type with
    | none => none
    | some a => bif Nat.beq f.offset o && Nat.beq (P.cellsOf f.type) a.length then match flatFs P rec fs (o + a.length) with
      | some b => some (a ++ b)
      | none => none
      else none
def flatK (P : Program) : Nat → TypeId → Option (List Bool)
  | 0, _ => none
  | n + 1, t => match P.underlying t with
    | some .bool => some [false]
    | some (.int .i64) => some [true]
    | some (.struct fs) => match flatFs P (flatK P n) fs.toList 0 with
      | some ks => bif Nat.beq (P.cellsOf t) ks.length then some ks else none
      | none => none
    | _ => none
def goodCell (b : Bool) (v : Option Value) : Prop := match b with
  | true => ∃ n, v = some (.int .i64 n) ∧ (Lit.int .i64 n).wf = true
  | false => ∃ c, v = some (.bool c)
section
variable {P : Program} {elT : ET} {H : Type} {enc : TypeId × Value → H} {W : World} {sp : Nat → Bool} {held : Bool}
theorem flatFs_good {rec : TypeId → Option (List Bool)} {base : Nat} {cs : List Value} (hrec : ∀ t ks fuel cs (x : DataW H × List MemPlace), rec t = some ks → DataW.trod enc P W base sp held fuel t cs = some x → cs.length = ks.length ∧ ∀ (i : Nat) (b : Bool), ks[i]? = some b → goodCell b cs[i]?) {n : Nat} :
    ∀ (fl : List Field) (o : Nat) (ks : List Bool), (∀ f ∈ fl, ∃ y, DataW.trod enc P W base sp held n f.type ((cs.drop f.offset).take (P.cellsOf f.type)) = some y) → flatFs P rec fl o = some ks → ∀ (i : Nat) (b : Bool), ks[i]? = some b → goodCell b cs[o + i]?
  | [], o, ks, _, h, i, b, hb => by simp only [flatFs, Option.some.injEq] at h; subst h; simp at hb
  | f :: fl, o, ks, hall, h, i, b, hb => by
    simp only [flatFs] at h
    split at h
    · cases h
    · rename_i a ha
      cases hc : (Nat.beq f.offset o && Nat.beq (P.cellsOf f.type) a.length) with
      | false => rw [hc] at h; cases h
      | true =>
        rw [hc] at h
        simp only [cond_true] at h
        simp only [Bool.and_eq_true] at hc
        have e1 := Nat.eq_of_beq_eq_true hc.1
        have e2 := Nat.eq_of_beq_eq_true hc.2
        split at h
        · rename_i b' hb'
          injection h with h
          subst h
          rcases Nat.lt_or_ge i a.length with hi | hi
          · rw [List.getElem?_append_left hi] at hb
            obtain ⟨y, hy⟩ := hall f (by simp)
            have hg := (hrec f.type a n _ y ha hy).2 i b hb
            rw [e1, e2, List.getElem?_take, if_pos hi, List.getElem?_drop] at hg
            exact hg
          · rw [List.getElem?_append_right hi] at hb
            have := flatFs_good hrec fl (o + a.length) b' (fun f hf => hall f (by simp [hf])) hb' (i - a.length) b hb
            rw [show o + a.length + (i - a.length) = o + i by omega] at this
            exact this
        · cases h
theorem flatK_good {base : Nat} : ∀ (n : Nat) (t : TypeId) (ks : List Bool) (fuel : Nat) (cs : List Value) (x : DataW H × List MemPlace), flatK P n t = some ks → DataW.trod enc P W base sp held fuel t cs = some x →
    cs.length = ks.length ∧ ∀ (i : Nat) (b : Bool), ks[i]? = some b → goodCell b cs[i]?
  | 0, t, ks, fuel, cs, x, h, _ => by cases h
  | n + 1, t, ks, fuel, cs, x, h, hx => by
    simp only [flatK] at h
    split at h
    · rename_i ht
      injection h with h; subst h
      obtain ⟨b, rfl, _⟩ := DataW.trod_bool ht hx
      refine ⟨rfl, fun i b' hb => ?_⟩
      cases i with
      | zero => simp at hb; subst hb; exact ⟨b, rfl⟩
      | succ i => simp at hb
    · rename_i ht
      injection h with h; subst h
      obtain ⟨m, rfl, _, hw⟩ := DataW.trod_int ht hx
      refine ⟨rfl, fun i b' hb => ?_⟩
      cases i with
      | zero => simp at hb; subst hb; exact ⟨m, rfl, hw⟩
      | succ i => simp at hb
    · rename_i fs ht
      split at h
      · rename_i ks' hks
        cases hc : Nat.beq (P.cellsOf t) ks'.length with
        | false => rw [hc] at h; cases h
        | true =>
          rw [hc] at h
          injection h with h; subst h
          obtain ⟨xs, m, _, _, hlen, hxs, hall⟩ := DataW.trod_struct ht hx
          refine ⟨by rw [hlen, Nat.eq_of_beq_eq_true hc], fun i b hb => ?_⟩
          have := flatFs_good (enc := enc) (W := W) (sp := sp) (held := held) (base := base) (cs := cs) (n := m) (fun t ks fuel cs x a b => flatK_good n t ks fuel cs x a b) fs.toList 0 ks' (fun f hf => by
            obtain ⟨k, hk⟩ := List.getElem?_of_mem hf
            rw [Array.getElem?_toList] at hk
            have h1 := hall k f hk
            have hi : k < fs.size := (Array.getElem?_eq_some_iff.1 hk).1
            rw [List.getElem?_eq_getElem (by omega)] at h1
            exact ⟨_, h1⟩) hks i b hb
          rwa [Nat.zero_add] at this
      · cases h
    · cases h
theorem struct_value {tg : Nat} {e : El tg} {fs : Array Field} {W : World} {r : Reach} {b : Nat} {v : Value} (ht : P.underlying (elT tg) = some (.struct fs)) (hv : Value.okWide P W r b (elT tg) v) (hcs : v.cells.toList = elEnc tg e) (ρ : List Value) :
    (V.agg ((elEnc tg e).map .ext)).den ρ = some v := by
  obtain ⟨cs, rfl, _⟩ := okWide_struct ht hv
  simp only [Value.cells] at hcs
  simp only [V.den, denL_ext]
  rw [← hcs]
end
end Go.Rx
end

section
namespace Go.Rx
open Go.ChangeShapes Go.WideShapes
theorem elOK_ints {P : Program} {elT : ET} {fs : Array Field} {m : Nat} (ht : P.underlying (elT (m + 4)) = some (.struct fs)) (hc : P.cellsOf (elT (m + 4)) = m % 32 + 1)
    (hf : flatK P 6 (elT (m + 4)) = some (List.replicate (m % 32 + 1) true)) : ElOK P elT (m + 4) := by
  refine ⟨hc, fun enc W base sp held fuel cs x h => ?_, fun W r b v e hv hcs ρ => struct_value ht hv hcs ρ⟩
  obtain ⟨hlen, hg⟩ := flatK_good 6 (elT (m + 4)) _ fuel cs x hf h
  rw [List.length_replicate] at hlen
  have hI : ∀ i, i < m % 32 + 1 → ∃ n, cs[i]? = some (.int .i64 n) ∧ (Lit.int .i64 n).wf = true := fun i hi => hg i true (by rw [List.getElem?_replicate, if_pos hi])
  obtain ⟨N, hN⟩ := Deep.choose_lt hI
  have hget : ∀ i, i < m % 32 + 1 → ((List.range (m % 32 + 1)).map N).getD i 0 = N i := fun i hi => by simp [List.getD, hi]
  have hcs : cs = elEnc (m + 4) ((List.range (m % 32 + 1)).map N : List Int) := by
    show cs = (List.range (m % 32 + 1)).map fun i => i64 (((List.range (m % 32 + 1)).map N).getD i 0)
    apply List.ext_getElem?
    intro i
    rcases Nat.lt_or_ge i (m % 32 + 1) with hi | hi
    · rw [(hN i hi).1, List.getElem?_map, List.getElem?_range hi, Option.map_some, hget i hi]
    · rw [List.getElem?_eq_none (by omega), List.getElem?_eq_none (by simpa using hi)]
  refine ⟨_, hcs, fun k n hm => ?_⟩
  have hm' : Value.int k n ∈ cs := by rw [hcs]; exact hm
  obtain ⟨i, hi⟩ := List.getElem?_of_mem hm'
  have hil : i < m % 32 + 1 := by rw [← hlen]; exact (List.getElem?_eq_some_iff.1 hi).1
  obtain ⟨h1, h2⟩ := hN i hil
  rw [h1] at hi
  injection hi with hi
  injection hi with e1 e2
  subst e1; subst e2
  exact h2
end Go.Rx
end

section
namespace Go.Rx
open Go.Proofs
noncomputable def y0v (c : yc) : Option (Int × yb × (List Int) × (List (List Int))) := (y1i c).bind fun x => bif x.1 then some x.2 else none
abbrev Y8 := yc → Option (Int × yb × (List Int) × (List (List Int)))
def y4m (m_ : Y8) (args : List V) (H : Heap) (K : V → Heap → Prop) : Prop :=
  aC args fun a0 r => aN r <| aAgg a0 fun c0 => y2i c0 fun c => aN H <| So (m_ c) fun x => K (.tup [.ptr 0 0, vi (x.1)]) [.cells 0 (yh (x.2.1) ++ [.ptr 1 0, .row 2]), .cells 0 [.row 3], .row 0 (x.2.2.1) false, .row 70 (x.2.2.2) false]
def y7u (m_ : Y8) : Spec := ⟨y4m m_, (true : Bool)⟩
theorem y97 : SpecOK Try.prog elTT 10 (y7u y0v) := spec_mono (fun args H K h => by
  change y4m y0v args H K at h
  unfold y4m at h
  repeat first | (obtain ⟨_, h⟩ := h) | replace h := Des.el h
  subst_vars
  rename_i c
  show So (y1i c) _
  unfold y0v at h
  revert h
  cases y1i c with
  | none => exact fun h => h
  | some x =>
    obtain ⟨a, y⟩ := x
    cases a with
    | true => exact fun h => h
    | false => exact fun h => h.elim) y6s
end Go.Rx
end

section
namespace Go.Rx
open Go.Proofs
set_option maxRecDepth 100000
set_option maxHeartbeats 4000000
def y5x (m_ : yc → (List (List Int)) → Option (yb × Bool × yb × (List Int) × (List (List Int)))) (args : List V) (H : Heap) (K : V → Heap → Prop) : Prop :=
  aC args fun a0 r => aC r fun a1 r => aN r <| aAgg a0 fun c0 => y2i c0 fun c => aRow 0 a1 <| aC H fun b0 r => aN r <| bRow 19 true b0 fun (acts : List (List Int)) => So (m_ c acts) fun x => K (.tup [.ptr 1 0, .agg (yh (x.1)), vb (x.2.1)]) [.row 19 acts true, .cells 0 (yh (x.2.2.1) ++ [.ptr 2 0, .row 3]), .cells 0 [.row 4], .row 0 (x.2.2.2.1) false, .row 70 (x.2.2.2.2) false]
def y6x (m_ : yc → (List (List Int)) → Option (yb × Bool × yb × (List Int) × (List (List Int)))) : Spec := ⟨y5x m_, (true : Bool)⟩
def wk_law20_after : List WK := [⟨true, 0, [], 0, 0, true⟩, ⟨true, 0, [], 24, 0, false⟩, ⟨true, 0, [23], 0, 0, true⟩, ⟨true, 0, [23], 0, 70, false⟩]
noncomputable def y2g (y0k : Y14) (y0v : Y8) (y09 : Y12) (yi : Y0) (yw : Y15) (yx : Y4) (yo : ye → T_api_Reply → yb → (List Int) → (List (List Int)) → Option (Bool × (List (List Int)) × (List Int))) : Cfg := { cfgB with
  sigs := (sigC 9 (y3r y0k) (sigC 10 (y7u y0v) (sigC 31 (y3c y09) (sigC 23 (y1h yi) (sigC 14 (y57 yw) (sigC 15 (altNil (y38 yo) (y34 yx)) sigN)))))),
  keep := fun r => match r with | 5 => some [(1, some 19), (5, none), (7, none), (8, none), (9, none), (10, none), (11, none)] | _ => none,
  plan := fun r => match r with | 9 => some (List.range 11, 80) | _ => none,
  planT := fun r => match r with | 7 => some ((chainT [0, 2, 3, 4, 5] (.alt (chainT [1] (.alt (chainT [6, 7, 8] .fin) (chainT [7, 6, 8] .fin))) (chainT [7, 1, 6, 8] .fin))), 8208) | _ => none,
  flag := fun d => Nat.beq d 5 || Nat.beq d 12 }
theorem y92 (y0k : Y14) (y0v : Y8) (y09 : Y12) (yi : Y0) (yw : Y15) (yx : Y4) (yo : ye → T_api_Reply → yb → (List Int) → (List (List Int)) → Option (Bool × (List (List Int)) × (List Int))) (c : yc) (acts : List (List Int)) (e : Int) (f : Int) (iv : Int) (c2 : yb) (c3 : Int) (c4 : Int) (c5 : Int) (c6 : Int) (c7 : Int) (c8 : Int) (c9 : Int) (c10 : Int) (c11 : Int) (c12 : Int) (c13 : Int) (c14 : Int) (c15 : Int) (c16 : Int) (c17 : Int) (c18 : Int) (c19 : Int) (c20 : Int) (c21 : Int) (c22 : Int) (c23 : Int) (c24 : Int) (c25 : Int) (c26 : yb) (w : List Int) (w2 : List (List Int)) (K : V → Heap → Prop) (J1 : Env → Heap → Prop) : (ex (y2g y0k y0v y09 yi yw yx yo) (⟨52, 1⟩ : Cx) (at_ (bodyOf Try.f22) [1, 1, 1, 1, 0, 1, 0, 0]) (mkEnv [(1, .row 0), (5, .ptr 1 0), (7, .ptr 2 0), (8, vi (e)), (9, .ptr 3 0), (10, vi (f)), (11, vi (iv))]) [.row 19 (acts : List (List Int)) Bool.true, .cells 6291519 (yh c2), .cells 0 [vi (c3), vi (c4), vi (c5), vi (c6), vi (c7), vi (c8), vi (c9), vi (c10), vi (c11), vi (c12), vi (c13), vi (c14), vi (c15), vi (c16), vi (c17), vi (c18), vi (c19), vi (c20), vi (c21), vi (c22), vi (c23), vi (c24), vi (c25), .ptr 4 0, .row 5], .cells 63 (yh c26), .cells 0 [.row 6], .row 0 (w : List (Int)) Bool.false, .row 70 (w2 : List (List Int)) Bool.false] (roundK (y2g y0k y0v y09 yi yw yx yo) (⟨52, 1⟩ : Cx) (at_ (bodyOf Try.f22) [1, 1, 1, 1, 0, 1, 0, 0]) (contK (y2g y0k y0v y09 yi yw yx yo) (⟨52, 1⟩ : Cx) (bodyOf Try.f22) [1, 1, 1, 1, 0, 1, 0] (retW (y2g y0k y0v y09 yi yw yx yo) wk_law20_after Try.f22 1 K)) J1)) = (
    br (Decidable.decide (iv < (↑(List.length acts) : Int))) (Req (inR iv (List.length acts)) (Req (inR (offs iv 0) (List.length acts)) (((So (yi c26) (fun (y0 : Int) => (((So (yw y0 (ym.mk (ye.mk (List.getD (List.getD acts (Int.toNat (offs iv (0 : Nat))) (List.replicate (16 : Nat) (0 : Int))) (0 : Nat) (0 : Int)) (List.getD (List.getD acts (Int.toNat (offs iv (0 : Nat))) (List.replicate (16 : Nat) (0 : Int))) (1 : Nat) (0 : Int)) (List.getD (List.getD acts (Int.toNat (offs iv (0 : Nat))) (List.replicate (16 : Nat) (0 : Int))) (2 : Nat) (0 : Int)) (List.getD (List.getD acts (Int.toNat (offs iv (0 : Nat))) (List.replicate (16 : Nat) (0 : Int))) (3 : Nat) (0 : Int)) (List.getD (List.getD acts (Int.toNat (offs iv (0 : Nat))) (List.replicate (16 : Nat) (0 : Int))) (4 : Nat) (0 : Int))) (T_api_Reply.mk (List.getD (List.getD acts (Int.toNat (offs iv (0 : Nat))) (List.replicate (16 : Nat) (0 : Int))) (5 : Nat) (0 : Int)) (List.getD (List.getD acts (Int.toNat (offs iv (0 : Nat))) (List.replicate (16 : Nat) (0 : Int))) (6 : Nat) (0 : Int)) (List.getD (List.getD acts (Int.toNat (offs iv (0 : Nat))) (List.replicate (16 : Nat) (0 : Int))) (7 : Nat) (0 : Int)) (List.getD (List.getD acts (Int.toNat (offs iv (0 : Nat))) (List.replicate (16 : Nat) (0 : Int))) (8 : Nat) (0 : Int)) (ya.mk (List.getD (List.getD acts (Int.toNat (offs iv (0 : Nat))) (List.replicate (16 : Nat) (0 : Int))) (9 : Nat) (0 : Int)) (List.getD (List.getD acts (Int.toNat (offs iv (0 : Nat))) (List.replicate (16 : Nat) (0 : Int))) (10 : Nat) (0 : Int)) (List.getD (List.getD acts (Int.toNat (offs iv (0 : Nat))) (List.replicate (16 : Nat) (0 : Int))) (11 : Nat) (0 : Int)) (List.getD (List.getD acts (Int.toNat (offs iv (0 : Nat))) (List.replicate (16 : Nat) (0 : Int))) (12 : Nat) (0 : Int)) (List.getD (List.getD acts (Int.toNat (offs iv (0 : Nat))) (List.replicate (16 : Nat) (0 : Int))) (13 : Nat) (0 : Int)) (List.getD (List.getD acts (Int.toNat (offs iv (0 : Nat))) (List.replicate (16 : Nat) (0 : Int))) (14 : Nat) (0 : Int)) (List.getD (List.getD acts (Int.toNat (offs iv (0 : Nat))) (List.replicate (16 : Nat) (0 : Int))) (15 : Nat) (0 : Int)))))) (fun (y1 : ym) => (So (yo (ym.Call y1) (ym.Reply y1) (yb.mk (yc.mk c3 c4 c5 c6 c7 c8 c9 c10 c11 c12 c13) c14 c15 c16 c17 c18 c19 c20 c21 c22 c23 c24 c25) w w2) (fun (y2 : Bool × List (List Int) × List Int) => (J1 (mkEnv [(1, .row 0), (5, .ptr 1 0), (7, .ptr 2 0), (8, vi (e)), (9, .ptr 3 0), (10, vi (f)), (11, vi (IntKind.wrap IntKind.i64 (iv + 1)))]) [.row 19 (acts : List (List Int)) Bool.true, .cells 6291519 (yh c2), .cells 0 [vi (c3), vi (c4), vi (c5), vi (c6), vi (c7), vi (c8), vi (c9), vi (c10), vi (c11), vi (c12), vi (c13), vi (c14), vi (c15), vi (c16), vi (c17), vi (c18), vi (c19), vi (c20), vi (c21), vi (c22), vi (c23), vi (c24), vi (c25), .ptr 4 0, .row 5], .cells 63 (yh c26), .cells 0 [.row 6], .row 0 (Prod.snd (Prod.snd y2) : List (Int)) Bool.false, .row 70 (Prod.fst (Prod.snd y2) : List (List Int)) Bool.false]))))) ∧ (So (yw y0 (ym.mk (ye.mk (List.getD (List.getD acts (Int.toNat (offs iv (0 : Nat))) (List.replicate (16 : Nat) (0 : Int))) (0 : Nat) (0 : Int)) (List.getD (List.getD acts (Int.toNat (offs iv (0 : Nat))) (List.replicate (16 : Nat) (0 : Int))) (1 : Nat) (0 : Int)) (List.getD (List.getD acts (Int.toNat (offs iv (0 : Nat))) (List.replicate (16 : Nat) (0 : Int))) (2 : Nat) (0 : Int)) (List.getD (List.getD acts (Int.toNat (offs iv (0 : Nat))) (List.replicate (16 : Nat) (0 : Int))) (3 : Nat) (0 : Int)) (List.getD (List.getD acts (Int.toNat (offs iv (0 : Nat))) (List.replicate (16 : Nat) (0 : Int))) (4 : Nat) (0 : Int))) (T_api_Reply.mk (List.getD (List.getD acts (Int.toNat (offs iv (0 : Nat))) (List.replicate (16 : Nat) (0 : Int))) (5 : Nat) (0 : Int)) (List.getD (List.getD acts (Int.toNat (offs iv (0 : Nat))) (List.replicate (16 : Nat) (0 : Int))) (6 : Nat) (0 : Int)) (List.getD (List.getD acts (Int.toNat (offs iv (0 : Nat))) (List.replicate (16 : Nat) (0 : Int))) (7 : Nat) (0 : Int)) (List.getD (List.getD acts (Int.toNat (offs iv (0 : Nat))) (List.replicate (16 : Nat) (0 : Int))) (8 : Nat) (0 : Int)) (ya.mk (List.getD (List.getD acts (Int.toNat (offs iv (0 : Nat))) (List.replicate (16 : Nat) (0 : Int))) (9 : Nat) (0 : Int)) (List.getD (List.getD acts (Int.toNat (offs iv (0 : Nat))) (List.replicate (16 : Nat) (0 : Int))) (10 : Nat) (0 : Int)) (List.getD (List.getD acts (Int.toNat (offs iv (0 : Nat))) (List.replicate (16 : Nat) (0 : Int))) (11 : Nat) (0 : Int)) (List.getD (List.getD acts (Int.toNat (offs iv (0 : Nat))) (List.replicate (16 : Nat) (0 : Int))) (12 : Nat) (0 : Int)) (List.getD (List.getD acts (Int.toNat (offs iv (0 : Nat))) (List.replicate (16 : Nat) (0 : Int))) (13 : Nat) (0 : Int)) (List.getD (List.getD acts (Int.toNat (offs iv (0 : Nat))) (List.replicate (16 : Nat) (0 : Int))) (14 : Nat) (0 : Int)) (List.getD (List.getD acts (Int.toNat (offs iv (0 : Nat))) (List.replicate (16 : Nat) (0 : Int))) (15 : Nat) (0 : Int)))))) (fun (y3 : ym) => (So (yo (ym.Call y3) (ym.Reply y3) (yb.mk (yc.mk c3 c4 c5 c6 c7 c8 c9 c10 c11 c12 c13) c14 c15 c16 c17 c18 c19 c20 c21 c22 c23 c24 c25) w w2) (fun (y4 : Bool × List (List Int) × List Int) => (J1 (mkEnv [(1, .row 0), (5, .ptr 1 0), (7, .ptr 2 0), (8, vi (e)), (9, .ptr 3 0), (10, vi (f)), (11, vi (IntKind.wrap IntKind.i64 (iv + 1)))]) [.row 19 (acts : List (List Int)) Bool.true, .cells 6291519 (yh c2), .cells 0 [vi (c3), vi (c4), vi (c5), vi (c6), vi (c7), vi (c8), vi (c9), vi (c10), vi (c11), vi (c12), vi (c13), vi (c14), vi (c15), vi (c16), vi (c17), vi (c18), vi (c19), vi (c20), vi (c21), vi (c22), vi (c23), vi (c24), vi (c25), .ptr 4 0, .row 5], .cells 63 (yh c26), .cells 0 [.row 6], .row 0 (Prod.snd (Prod.snd y4) : List (Int)) Bool.false, .row 70 (Prod.fst (Prod.snd y4) : List (List Int)) Bool.false]))))))))) ∧ (So (yi c26) (fun (y5 : Int) => (So (yw y5 (ym.mk (ye.mk (List.getD (List.getD acts (Int.toNat (offs iv (0 : Nat))) (List.replicate (16 : Nat) (0 : Int))) (0 : Nat) (0 : Int)) (List.getD (List.getD acts (Int.toNat (offs iv (0 : Nat))) (List.replicate (16 : Nat) (0 : Int))) (1 : Nat) (0 : Int)) (List.getD (List.getD acts (Int.toNat (offs iv (0 : Nat))) (List.replicate (16 : Nat) (0 : Int))) (2 : Nat) (0 : Int)) (List.getD (List.getD acts (Int.toNat (offs iv (0 : Nat))) (List.replicate (16 : Nat) (0 : Int))) (3 : Nat) (0 : Int)) (List.getD (List.getD acts (Int.toNat (offs iv (0 : Nat))) (List.replicate (16 : Nat) (0 : Int))) (4 : Nat) (0 : Int))) (T_api_Reply.mk (List.getD (List.getD acts (Int.toNat (offs iv (0 : Nat))) (List.replicate (16 : Nat) (0 : Int))) (5 : Nat) (0 : Int)) (List.getD (List.getD acts (Int.toNat (offs iv (0 : Nat))) (List.replicate (16 : Nat) (0 : Int))) (6 : Nat) (0 : Int)) (List.getD (List.getD acts (Int.toNat (offs iv (0 : Nat))) (List.replicate (16 : Nat) (0 : Int))) (7 : Nat) (0 : Int)) (List.getD (List.getD acts (Int.toNat (offs iv (0 : Nat))) (List.replicate (16 : Nat) (0 : Int))) (8 : Nat) (0 : Int)) (ya.mk (List.getD (List.getD acts (Int.toNat (offs iv (0 : Nat))) (List.replicate (16 : Nat) (0 : Int))) (9 : Nat) (0 : Int)) (List.getD (List.getD acts (Int.toNat (offs iv (0 : Nat))) (List.replicate (16 : Nat) (0 : Int))) (10 : Nat) (0 : Int)) (List.getD (List.getD acts (Int.toNat (offs iv (0 : Nat))) (List.replicate (16 : Nat) (0 : Int))) (11 : Nat) (0 : Int)) (List.getD (List.getD acts (Int.toNat (offs iv (0 : Nat))) (List.replicate (16 : Nat) (0 : Int))) (12 : Nat) (0 : Int)) (List.getD (List.getD acts (Int.toNat (offs iv (0 : Nat))) (List.replicate (16 : Nat) (0 : Int))) (13 : Nat) (0 : Int)) (List.getD (List.getD acts (Int.toNat (offs iv (0 : Nat))) (List.replicate (16 : Nat) (0 : Int))) (14 : Nat) (0 : Int)) (List.getD (List.getD acts (Int.toNat (offs iv (0 : Nat))) (List.replicate (16 : Nat) (0 : Int))) (15 : Nat) (0 : Int)))))) (fun (y6 : ym) => (So (yo (ym.Call y6) (ym.Reply y6) (yb.mk (yc.mk c3 c4 c5 c6 c7 c8 c9 c10 c11 c12 c13) c14 c15 c16 c17 c18 c19 c20 c21 c22 c23 c24 c25) w w2) (fun (y7 : Bool × List (List Int) × List Int) => (J1 (mkEnv [(1, .row 0), (5, .ptr 1 0), (7, .ptr 2 0), (8, vi (e)), (9, .ptr 3 0), (10, vi (f)), (11, vi (IntKind.wrap IntKind.i64 (iv + 1)))]) [.row 19 (acts : List (List Int)) Bool.true, .cells 6291519 (yh c2), .cells 0 [vi (c3), vi (c4), vi (c5), vi (c6), vi (c7), vi (c8), vi (c9), vi (c10), vi (c11), vi (c12), vi (c13), vi (c14), vi (c15), vi (c16), vi (c17), vi (c18), vi (c19), vi (c20), vi (c21), vi (c22), vi (c23), vi (c24), vi (c25), .ptr 4 0, .row 5], .cells 63 (yh c26), .cells 0 [.row 6], .row 0 (Prod.snd (Prod.snd y7) : List (Int)) Bool.false, .row 70 (Prod.fst (Prod.snd y7) : List (List Int)) Bool.false]))))))))))) (br (e == 0) (K (.tup [.ptr 1 0, .agg (yh c26), vb (f == 0)]) [.row 19 (acts : List (List Int)) Bool.true, .cells 0 [vi (c3), vi (c4), vi (c5), vi (c6), vi (c7), vi (c8), vi (c9), vi (c10), vi (c11), vi (c12), vi (c13), vi (c14), vi (c15), vi (c16), vi (c17), vi (c18), vi (c19), vi (c20), vi (c21), vi (c22), vi (c23), vi (c24), vi (c25), .ptr 2 0, .row 3], .cells 0 [.row 4], .row 0 (w : List (Int)) Bool.false, .row 70 (w2 : List (List Int)) Bool.false]) (K (.tup [.ptr 1 0, .agg (yh c26), vb (Bool.false)]) [.row 19 (acts : List (List Int)) Bool.true, .cells 0 [vi (c3), vi (c4), vi (c5), vi (c6), vi (c7), vi (c8), vi (c9), vi (c10), vi (c11), vi (c12), vi (c13), vi (c14), vi (c15), vi (c16), vi (c17), vi (c18), vi (c19), vi (c20), vi (c21), vi (c22), vi (c23), vi (c24), vi (c25), .ptr 2 0, .row 3], .cells 0 [.row 4], .row 0 (w : List (Int)) Bool.false, .row 70 (w2 : List (List Int)) Bool.false]))) := by
  kernel_rfl
theorem y9k (y0k : Y14) (y0v : Y8) (y09 : Y12) (yi : Y0) (yw : Y15) (yx : Y4) (yo : ye → T_api_Reply → yb → (List Int) → (List (List Int)) → Option (Bool × (List (List Int)) × (List Int))) (c : yc) (acts : List (List Int)) (K : V → Heap → Prop) : (exFW (y2g y0k y0v y09 yi yw yx yo) [] wk_law20_after Try.f22 [.agg (y1o c), .row 0] [.row 19 acts true] K) = (
    So (y0k c) (fun (y0 : yc) => (So (y0v y0) (fun (y1 : Int × yb × List Int × List (List Int)) => (So (y09 y0) (fun (y2 : yb × Int) => (Loop (y2g y0k y0v y09 yi yw yx yo) (⟨52, 1⟩ : Cx) (at_ (bodyOf Try.f22) [1, 1, 1, 1, 0, 1, 0, 0]) (mkEnv [(1, .row 0), (5, .ptr 1 0), (7, .ptr 2 0), (8, vi (Prod.fst y1)), (9, .ptr 3 0), (10, vi (Prod.snd y2)), (11, vi (0))]) [.row 19 (acts : List (List Int)) Bool.true, .cells 6291519 [vi (0), vi (0), vi (0), vi (0), vi (0), vi (0), vi (0), vi (0), vi (0), vi (0), vi (0), vi (0), vi (0), vi (0), vi (0), vi (0), vi (0), vi (0), vi (0), vi (0), vi (0), vi (0), vi (0)], .cells 0 (yh (Prod.fst (Prod.snd y1)) ++ [.ptr 4 0, .row 5]), .cells 63 (yh (Prod.fst y2)), .cells 0 [.row 6], .row 0 (Prod.fst (Prod.snd (Prod.snd y1)) : List (Int)) Bool.false, .row 70 (Prod.snd (Prod.snd (Prod.snd y1)) : List (List Int)) Bool.false] (contK (y2g y0k y0v y09 yi yw yx yo) (⟨52, 1⟩ : Cx) (bodyOf Try.f22) [1, 1, 1, 1, 0, 1, 0] (retW (y2g y0k y0v y09 yi yw yx yo) wk_law20_after Try.f22 1 K))))))))) := by
  kernel_rfl
noncomputable def y32 (acts : List (List Int)) (e : Int) (f : Int) (c3 : Int) (c4 : Int) (c5 : Int) (c6 : Int) (c7 : Int) (c8 : Int) (c9 : Int) (c10 : Int) (c11 : Int) (c12 : Int) (c13 : Int) (c14 : Int) (c15 : Int) (c16 : Int) (c17 : Int) (c18 : Int) (c19 : Int) (c20 : Int) (c21 : Int) (c22 : Int) (c23 : Int) (c24 : Int) (c25 : Int) (c26 : yb) (iv : Int) (w : List Int) (w2 : List (List Int)) : Option ((Int × (List Int) × (List (List Int))) ⊕ (yb × Bool × yb × (List Int) × (List (List Int)))) :=
  (bif (Decidable.decide (iv < (↑(List.length acts) : Int))) then (bif (inR iv (List.length acts)) then (bif (inR (offs iv 0) (List.length acts)) then ((yi c26).bind fun y5 => ((yw y5 (ym.mk (ye.mk (List.getD (List.getD acts (Int.toNat (offs iv (0 : Nat))) (List.replicate (16 : Nat) (0 : Int))) (0 : Nat) (0 : Int)) (List.getD (List.getD acts (Int.toNat (offs iv (0 : Nat))) (List.replicate (16 : Nat) (0 : Int))) (1 : Nat) (0 : Int)) (List.getD (List.getD acts (Int.toNat (offs iv (0 : Nat))) (List.replicate (16 : Nat) (0 : Int))) (2 : Nat) (0 : Int)) (List.getD (List.getD acts (Int.toNat (offs iv (0 : Nat))) (List.replicate (16 : Nat) (0 : Int))) (3 : Nat) (0 : Int)) (List.getD (List.getD acts (Int.toNat (offs iv (0 : Nat))) (List.replicate (16 : Nat) (0 : Int))) (4 : Nat) (0 : Int))) (T_api_Reply.mk (List.getD (List.getD acts (Int.toNat (offs iv (0 : Nat))) (List.replicate (16 : Nat) (0 : Int))) (5 : Nat) (0 : Int)) (List.getD (List.getD acts (Int.toNat (offs iv (0 : Nat))) (List.replicate (16 : Nat) (0 : Int))) (6 : Nat) (0 : Int)) (List.getD (List.getD acts (Int.toNat (offs iv (0 : Nat))) (List.replicate (16 : Nat) (0 : Int))) (7 : Nat) (0 : Int)) (List.getD (List.getD acts (Int.toNat (offs iv (0 : Nat))) (List.replicate (16 : Nat) (0 : Int))) (8 : Nat) (0 : Int)) (ya.mk (List.getD (List.getD acts (Int.toNat (offs iv (0 : Nat))) (List.replicate (16 : Nat) (0 : Int))) (9 : Nat) (0 : Int)) (List.getD (List.getD acts (Int.toNat (offs iv (0 : Nat))) (List.replicate (16 : Nat) (0 : Int))) (10 : Nat) (0 : Int)) (List.getD (List.getD acts (Int.toNat (offs iv (0 : Nat))) (List.replicate (16 : Nat) (0 : Int))) (11 : Nat) (0 : Int)) (List.getD (List.getD acts (Int.toNat (offs iv (0 : Nat))) (List.replicate (16 : Nat) (0 : Int))) (12 : Nat) (0 : Int)) (List.getD (List.getD acts (Int.toNat (offs iv (0 : Nat))) (List.replicate (16 : Nat) (0 : Int))) (13 : Nat) (0 : Int)) (List.getD (List.getD acts (Int.toNat (offs iv (0 : Nat))) (List.replicate (16 : Nat) (0 : Int))) (14 : Nat) (0 : Int)) (List.getD (List.getD acts (Int.toNat (offs iv (0 : Nat))) (List.replicate (16 : Nat) (0 : Int))) (15 : Nat) (0 : Int)))))).bind fun y6 => ((yo (ym.Call y6) (ym.Reply y6) (yb.mk (yc.mk c3 c4 c5 c6 c7 c8 c9 c10 c11 c12 c13) c14 c15 c16 c17 c18 c19 c20 c21 c22 c23 c24 c25) w w2).bind fun y7 => some (.inl ((IntKind.wrap IntKind.i64 (iv + 1)), (Prod.snd (Prod.snd y7)), (Prod.fst (Prod.snd y7))))))) else none) else none) else (bif (e == 0) then some (.inr (((c26), (f == 0), ((yb.mk (yc.mk (c3) (c4) (c5) (c6) (c7) (c8) (c9) (c10) (c11) (c12) (c13)) (c14) (c15) (c16) (c17) (c18) (c19) (c20) (c21) (c22) (c23) (c24) (c25))), (w), (w2)))) else some (.inr (((c26), (Bool.false), ((yb.mk (yc.mk (c3) (c4) (c5) (c6) (c7) (c8) (c9) (c10) (c11) (c12) (c13)) (c14) (c15) (c16) (c17) (c18) (c19) (c20) (c21) (c22) (c23) (c24) (c25))), (w), (w2))))))
noncomputable def y33 (acts : List (List Int)) (e : Int) (f : Int) (c3 : Int) (c4 : Int) (c5 : Int) (c6 : Int) (c7 : Int) (c8 : Int) (c9 : Int) (c10 : Int) (c11 : Int) (c12 : Int) (c13 : Int) (c14 : Int) (c15 : Int) (c16 : Int) (c17 : Int) (c18 : Int) (c19 : Int) (c20 : Int) (c21 : Int) (c22 : Int) (c23 : Int) (c24 : Int) (c25 : Int) (c26 : yb) (s : Int × (List Int) × (List (List Int))) : Option (yb × Bool × yb × (List Int) × (List (List Int))) :=
  loopO (fun s => y32 acts e f c3 c4 c5 c6 c7 c8 c9 c10 c11 c12 c13 c14 c15 c16 c17 c18 c19 c20 c21 c22 c23 c24 c25 c26 s.1 s.2.1 s.2.2) s
noncomputable def y0d (c : yc) (acts : List (List Int)) : Option (yb × Bool × yb × (List Int) × (List (List Int))) :=
  ((y0k c).bind fun y0 => ((y0v y0).bind fun y1 => ((y09 y0).bind fun y2 => (y33 acts (Prod.fst y1) (Prod.snd y2) (yc.Workers (yb.c (Prod.fst (Prod.snd y1)))) (yc.CPUs (yb.c (Prod.fst (Prod.snd y1)))) (yc.Pages (yb.c (Prod.fst (Prod.snd y1)))) (yc.Stripes (yb.c (Prod.fst (Prod.snd y1)))) (yc.Tries (yb.c (Prod.fst (Prod.snd y1)))) (yc.Wait (yb.c (Prod.fst (Prod.snd y1)))) (yc.Clock (yb.c (Prod.fst (Prod.snd y1)))) (yc.Private (yb.c (Prod.fst (Prod.snd y1)))) (yc.Cache (yb.c (Prod.fst (Prod.snd y1)))) (yc.Bin (yb.c (Prod.fst (Prod.snd y1)))) (yc.Batch (yb.c (Prod.fst (Prod.snd y1)))) (yb.at_0 (Prod.fst (Prod.snd y1))) (yb.at_1 (Prod.fst (Prod.snd y1))) (yb.at_2 (Prod.fst (Prod.snd y1))) (yb.at_3 (Prod.fst (Prod.snd y1))) (yb.at_4 (Prod.fst (Prod.snd y1))) (yb.at_5 (Prod.fst (Prod.snd y1))) (yb.at_6 (Prod.fst (Prod.snd y1))) (yb.at_7 (Prod.fst (Prod.snd y1))) (yb.at_8 (Prod.fst (Prod.snd y1))) (yb.at_9 (Prod.fst (Prod.snd y1))) (yb.at_10 (Prod.fst (Prod.snd y1))) (yb.at_11 (Prod.fst (Prod.snd y1))) (Prod.fst y2) ((0), (Prod.fst (Prod.snd (Prod.snd y1))), (Prod.snd (Prod.snd (Prod.snd y1))))))))
attribute [local irreducible] Loop ex exF contK roundK retK at_ bodyOf mkEnv exFW retW
theorem lpok_law20_after_L1 (c : yc) (acts : List (List Int)) (e : Int) (f : Int) (iv : Int) (c2 : yb) (c3 : Int) (c4 : Int) (c5 : Int) (c6 : Int) (c7 : Int) (c8 : Int) (c9 : Int) (c10 : Int) (c11 : Int) (c12 : Int) (c13 : Int) (c14 : Int) (c15 : Int) (c16 : Int) (c17 : Int) (c18 : Int) (c19 : Int) (c20 : Int) (c21 : Int) (c22 : Int) (c23 : Int) (c24 : Int) (c25 : Int) (c26 : yb) (w : List Int) (w2 : List (List Int)) (K : V → Heap → Prop) : So (y33 (acts) (e) (f) (c3) (c4) (c5) (c6) (c7) (c8) (c9) (c10) (c11) (c12) (c13) (c14) (c15) (c16) (c17) (c18) (c19) (c20) (c21) (c22) (c23) (c24) (c25) (c26) (iv, w, w2)) (fun (x : yb × Bool × yb × (List Int) × (List (List Int))) => K (.tup [.ptr 1 0, .agg (yh (x.1)), vb (x.2.1)]) [.row 19 acts true, .cells 0 (yh (x.2.2.1) ++ [.ptr 2 0, .row 3]), .cells 0 [.row 4], .row 0 (x.2.2.2.1) false, .row 70 (x.2.2.2.2) false]) → Loop (y2g y0k y0v y09 yi yw yx yo) (⟨52, 1⟩ : Cx) (at_ (bodyOf Try.f22) [1, 1, 1, 1, 0, 1, 0, 0]) (mkEnv [(1, .row 0), (5, .ptr 1 0), (7, .ptr 2 0), (8, vi (e)), (9, .ptr 3 0), (10, vi (f)), (11, vi (iv))]) [.row 19 (acts : List (List Int)) Bool.true, .cells 6291519 (yh c2), .cells 0 [vi (c3), vi (c4), vi (c5), vi (c6), vi (c7), vi (c8), vi (c9), vi (c10), vi (c11), vi (c12), vi (c13), vi (c14), vi (c15), vi (c16), vi (c17), vi (c18), vi (c19), vi (c20), vi (c21), vi (c22), vi (c23), vi (c24), vi (c25), .ptr 4 0, .row 5], .cells 63 (yh c26), .cells 0 [.row 6], .row 0 (w : List (Int)) Bool.false, .row 70 (w2 : List (List Int)) Bool.false] (contK (y2g y0k y0v y09 yi yw yx yo) (⟨52, 1⟩ : Cx) (bodyOf Try.f22) [1, 1, 1, 1, 0, 1, 0] (retW (y2g y0k y0v y09 yi yw yx yo) wk_law20_after Try.f22 1 K)) := by
  refine loopK_So (fun (s_ : Int × (List Int) × (List (List Int))) => (mkEnv [(1, .row 0), (5, .ptr 1 0), (7, .ptr 2 0), (8, vi (e)), (9, .ptr 3 0), (10, vi (f)), (11, vi ((s_.1)))])) (fun (s_ : Int × (List Int) × (List (List Int))) => [.row 19 (acts : List (List Int)) Bool.true, .cells 6291519 (yh c2), .cells 0 [vi (c3), vi (c4), vi (c5), vi (c6), vi (c7), vi (c8), vi (c9), vi (c10), vi (c11), vi (c12), vi (c13), vi (c14), vi (c15), vi (c16), vi (c17), vi (c18), vi (c19), vi (c20), vi (c21), vi (c22), vi (c23), vi (c24), vi (c25), .ptr 4 0, .row 5], .cells 63 (yh c26), .cells 0 [.row 6], .row 0 ((s_.2.1) : List (Int)) Bool.false, .row 70 ((s_.2.2) : List (List Int)) Bool.false]) (fun (x : yb × Bool × yb × (List Int) × (List (List Int))) => K (.tup [.ptr 1 0, .agg (yh (x.1)), vb (x.2.1)]) [.row 19 acts true, .cells 0 (yh (x.2.2.1) ++ [.ptr 2 0, .row 3]), .cells 0 [.row 4], .row 0 (x.2.2.2.1) false, .row 70 (x.2.2.2.2) false]) ?_ (iv, w, w2)
  intro s_ J1 h
  clear iv
  clear w
  clear w2
  obtain ⟨iv, w, w2⟩ := s_
  refine Eq.mpr (y92 y0k y0v y09 yi yw yx yo c acts e f iv c2 c3 c4 c5 c6 c7 c8 c9 c10 c11 c12 c13 c14 c15 c16 c17 c18 c19 c20 c21 c22 c23 c24 c25 c26 w w2 K J1) ?_
  have h : So (y32 (acts) (e) (f) (c3) (c4) (c5) (c6) (c7) (c8) (c9) (c10) (c11) (c12) (c13) (c14) (c15) (c16) (c17) (c18) (c19) (c20) (c21) (c22) (c23) (c24) (c25) (c26) iv w w2) _ := h
  unfold y32 at h
  revert h
  exact br_So (req_So (req_So (alt_So (bind_So fun y0 => alt_So (bind_So fun y1 => bind_So fun y2 => fun h => h) (bind_So fun y3 => bind_So fun y4 => fun h => h)) (bind_So fun y5 => bind_So fun y6 => bind_So fun y7 => fun h => h)))) (br_So (fun h => h) (fun h => h))
theorem y9g : SpecOK Try.prog elTT 22 (y6x y0d) := by
  refine spec_of_exFW (cfg := (y2g y0k y0v y09 yi yw yx yo)) (yr rfl rfl rfl) (yk y7w (yk y97 (yk y5s (yk y2j (yk y7k (yk (altNil_ok y4e y64) yu)))))) (pre := []) (wk := wk_law20_after) (fn := Try.f22) (by kernel_rfl) (by kernel_rfl) (by kernel_rfl) ?_
  intro args H K h
  change y5x y0d args H K at h
  unfold y5x at h
  repeat first | (obtain ⟨_, h⟩ := h) | replace h := Des.el h
  subst_vars
  refine Eq.mpr (y9k y0k y0v y09 yi yw yx yo _ _ K) ?_
  unfold y0d at h
  revert h
  exact bind_So fun y0 => bind_So fun y1 => bind_So fun y2 => lpok_law20_after_L1 (by first | assumption | exact default) _ _ _ _ (yb.mk (yc.mk (0) (0) (0) (0) (0) (0) (0) (0) (0) (0) (0)) (0) (0) (0) (0) (0) (0) (0) (0) (0) (0) (0) (0)) _ _ _ _ _ _ _ _ _ _ _ _ _ _ _ _ _ _ _ _ _ _ _ (Prod.fst y2) _ _ K
end Go.Rx
end

section
namespace Go.Rx
open Go.Proofs
theorem aNewR_eq {d : yc} (h : RightC d) : y0v d = some (0, layC d, List.replicate (d.Pages * 32).toNat 0, []) := NewR_eq h
theorem act_meant {u : Int} (hu : 0 ≤ u ∧ u ≤ 100000) (x : List Int) : yw u ⟨⟨List.getD x 0 0, List.getD x 1 0, List.getD x 2 0, List.getD x 3 0, List.getD x 4 0⟩, ⟨List.getD x 5 0, List.getD x 6 0, List.getD x 7 0, List.getD x 8 0, ⟨List.getD x 9 0, List.getD x 10 0, List.getD x 11 0, List.getD x 12 0, List.getD x 13 0, List.getD x 14 0, List.getD x 15 0⟩⟩⟩ = some ⟨mCall u (actC x), mRep u (actR x)⟩ := meant_eq hu (actC x) (actR x)
theorem after_eq (c : yc) (acts : List (List Int)) (hn : acts.length ≤ 1000) (hacts : ∀ e ∈ acts, ActOK e) : ∃ d its ws, RightC d ∧ y0d c acts = some (layC d, true, layC d, ws, its) ∧ SOK (layC d) its ∧ its.length ≤ acts.length ∧ (ws.length : Int) = (layC d).at_11 - (layC d).at_10 := by
  obtain ⟨d, hS, hR⟩ := Small20 c
  have hL := layC_ok hR
  have hb := hL.big; have h11 := hL.a11; have hpg := hL.pages
  have hu : 0 ≤ (layC d).at_10 ∧ (layC d).at_10 ≤ 100000 := by omega
  have key : ∀ (R A : List (List Int)) (its : List (List Int)) (ws : List Int), acts = A ++ R → SOK (layC d) its → its.length ≤ A.length → (ws.length : Int) = (layC d).at_11 - (layC d).at_10 →
      ∃ its' ws', y33 acts 0 0 (layC d).c.Workers (layC d).c.CPUs (layC d).c.Pages (layC d).c.Stripes (layC d).c.Tries (layC d).c.Wait (layC d).c.Clock (layC d).c.Private (layC d).c.Cache (layC d).c.Bin (layC d).c.Batch
        (layC d).at_0 (layC d).at_1 (layC d).at_2 (layC d).at_3 (layC d).at_4 (layC d).at_5 (layC d).at_6 (layC d).at_7 (layC d).at_8 (layC d).at_9 (layC d).at_10 (layC d).at_11 (layC d) ((A.length : Int), ws, its) = some (layC d, true, layC d, ws', its') ∧ SOK (layC d) its' ∧ its'.length ≤ acts.length ∧ (ws'.length : Int) = (layC d).at_11 - (layC d).at_10 := by
    intro R
    induction R with
    | nil =>
      intro A its ws e hs hl hw
      rw [List.append_nil] at e
      refine ⟨its, ws, ?_, hs, by rw [e]; exact hl, hw⟩
      unfold y33
      refine loopO_end ?_
      simp only [y32]
      rw [e, decide_eq_false (by omega), cond_false, etaL]; rfl
    | cons x R ih =>
      intro A its ws e hs hl hw
      have hla : A.length < acts.length := by rw [e]; simp
      have hlt : decide ((A.length : Int) < (acts.length : Int)) = true := decide_eq_true (by omega)
      have hi : inR (A.length : Int) acts.length = true := inR_nat hla
      have hg : acts.getD A.length (List.replicate 16 0) = x := by rw [e]; exact mid_get A x R _
      have hx : ActOK x := hacts x (by rw [e]; simp)
      have hcrb := hx.crb hu
      have hok := stepR_ok (ws := ws) (c := mCall (layC d).at_10 (actC x)) (r := mRep (layC d).at_10 (actR x)) hs
      have hst := Step_eq hs (by omega) hw hcrb
      generalize stepR (layC d) its ws (mCall (layC d).at_10 (actC x)) (mRep (layC d).at_10 (actR x)) = st at *
      obtain ⟨its', ws', n1, n2⟩ := ih (A ++ [x]) st.2.1 st.2.2 (by rw [e]; simp) hok.1 (by have := hok.2.2.1; simp; omega) (by rw [hok.2.1]; exact hw)
      refine ⟨its', ws', ?_, n2⟩
      unfold y33 at n1 ⊢
      refine (loopO_go ?_).trans n1
      simp only [y32, hlt, cond_true, offs0, hi, Int.toNat_natCast, hg]
      rw [User_eq, Option.bind_some, act_meant hu, Option.bind_some, etaL]
      dsimp only
      rw [hst, Option.bind_some, wrap_succ (by omega)]
      simp
  obtain ⟨its, ws, k1, k2, k3, k4⟩ := key acts [] [] (List.replicate (d.Pages * 32).toNat 0) rfl (nil_SOK hR) (by simp) (rep_len hR)
  refine ⟨d, its, ws, hR, ?_, k2, k3, k4⟩
  unfold y0d
  rw [hS, Option.bind_some, aNewR_eq hR, Option.bind_some, Of_eq, if_pos hR, Option.bind_some]
  exact k1
end Go.Rx
end
