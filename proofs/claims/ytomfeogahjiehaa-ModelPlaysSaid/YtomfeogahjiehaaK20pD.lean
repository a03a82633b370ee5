/- What the row's text of this claim stands on, part 4: the symbolic executor, contracts of the program's functions, plain facts. No condition. -/
import Derived.WalkKit
import Derived.ProofKit
import Derived.OpenShut
import Derived.Carry
import Derived.Deep.Slices
import Derived.JoinedOf
import Derived.Test.YtomfeogahjiehaaK20pC
noncomputable section
namespace Go.Rx
open Go.Proofs
set_option maxRecDepth 100000
set_option maxHeartbeats 4000000
theorem yfh {cs : List V} {k : T_assartref02_Layout → List V → Prop} (h : y1c (List.take 11 cs) fun x => aRest (List.drop 11 cs) fun r => k x r) : ∃ x r, cs = y0k x ++ r ∧ k x r := by
  obtain ⟨x, e, h⟩ := y9z h
  exact ⟨x, _, by rw [← e, List.take_append_drop], h⟩
instance (cs : List V) (k : T_assartref02_Layout → List V → Prop) : Des (y1c (List.take 11 cs) fun x => aRest (List.drop 11 cs) fun r => k x r) (∃ x r, cs = y0k x ++ r ∧ k x r) := ⟨yfh⟩
abbrev Y6 := yc → Option (T_assartref02_Layout × (List (List Int)) × (List Int))
def y7y (m_ : Y6) (args : List V) (H : Heap) (K : V → Heap → Prop) : Prop :=
  aC args fun a0 r => aN r <| aAgg a0 fun c0 => y32 c0 fun c => aN H <| So (m_ c) fun x => K (.ptr 0 0) [.cells 0 (y0k x.1 ++ [.row 1, .row 2]), .row 6 x.2.1 false, .row 0 x.2.2 false]
def y8w (m_ : Y6) : Spec := ⟨y7y m_, (true : Bool)⟩
def y5y (m_ : Y3) (args : List V) (H : Heap) (K : V → Heap → Prop) : Prop :=
  aC args fun a0 r => aC r fun a1 r => aN r <| aInt a0 fun n => aInt a1 fun align => aN H <| So (m_ n align) fun x => K (vi x) []
def y85 (m_ : Y3) : Spec := ⟨y5y m_, (true : Bool)⟩
def y7c (m_ : Int → T_assartref02_Layout → (List (List Int)) → (List Int) → Option Int) (args : List V) (H : Heap) (K : V → Heap → Prop) : Prop :=
  aC args fun a0 r => aC r fun a1 r => aN r <| aPtr 0 a0 <| aInt a1 fun a => aC H fun b0 r => aC r fun b1 r => aC r fun b2 r => aN r <| bRCells b0 fun c0 => y1c (List.take 11 c0) fun m_Lv => aRest (List.drop 11 c0) fun r => aC r fun d0_11 r => aRow 1 d0_11 <| aC r fun d0_12 r => aRow 2 d0_12 <| aN r <| bRow 6 true b1 fun (m_Bv : List (List Int)) => bRow 0 true b2 fun (m_Wv : List Int) => So (m_ a m_Lv m_Bv m_Wv) fun x => K (vi x) [.rcells (y0k m_Lv ++ [.row 1, .row 2]), .row 6 m_Bv true, .row 0 m_Wv true]
def y4c (m_ : Int → T_assartref02_Layout → (List (List Int)) → (List Int) → Option Int) : Spec := ⟨y7c m_, (⟨true, fun i => false, fun i => Nat.beq i 0⟩ : RO)⟩
def y7s (m_ : Int → T_assartref02_Layout → (List (List Int)) → (List Int) → Option Int) (args : List V) (H : Heap) (K : V → Heap → Prop) : Prop :=
  aC args fun a0 r => aC r fun a1 r => aN r <| aPtr 0 a0 <| aInt a1 fun a => aC H fun b0 r => aC r fun b1 r => aC r fun b2 r => aN r <| bRCells b0 fun c0 => y1c (List.take 11 c0) fun m_Lv => aRest (List.drop 11 c0) fun r => aC r fun d0_11 r => aRow 1 d0_11 <| aC r fun d0_12 r => aRow 2 d0_12 <| aN r <| bRow 6 true b1 fun (m_Bv : List (List Int)) => bRow 0 true b2 fun (m_Wv : List Int) => So (m_ a m_Lv m_Bv m_Wv) fun x => K (vi x) [.rcells (y0k m_Lv ++ [.row 1, .row 2]), .row 6 m_Bv true, .row 0 m_Wv true]
def y78 (m_ : Int → T_assartref02_Layout → (List (List Int)) → (List Int) → Option Int) : Spec := ⟨y7s m_, (⟨true, fun i => false, fun i => Nat.beq i 0⟩ : RO)⟩
def y7e (m_ : Int → T_assartref02_Layout → (List (List Int)) → (List Int) → Option ((List (List Int)) × (List Int))) (args : List V) (H : Heap) (K : V → Heap → Prop) : Prop :=
  aC args fun a0 r => aC r fun a1 r => aN r <| aPtr 0 a0 <| aInt a1 fun iv => aC H fun b0 r => aC r fun b1 r => aC r fun b2 r => aN r <| bCells b0 fun U c0 => y1c (List.take 11 c0) fun m_Lv => aRest (List.drop 11 c0) fun r => aC r fun d0_11 r => aRow 1 d0_11 <| aC r fun d0_12 r => aRow 2 d0_12 <| aN r <| bRow 6 false b1 fun (m_Bv : List (List Int)) => bRow 0 false b2 fun (m_Wv : List Int) => So (m_ iv m_Lv m_Bv m_Wv) fun x => K (.tup []) [.cells U (y0k m_Lv ++ [.row 3, .row 4]), .dead, .dead, .row 6 x.1 false, .row 0 x.2 false]
def y6v (m_ : Int → T_assartref02_Layout → (List (List Int)) → (List Int) → Option ((List (List Int)) × (List Int))) : Spec := ⟨y7e m_, (⟨true, fun i => Nat.beq i 1 || Nat.beq i 2, fun _ => false⟩ : RO)⟩
def y7k (m_ : T_assartref02_Layout → (List (List Int)) → (List Int) → Option (List Pr)) (args : List V) (H : Heap) (K : V → Heap → Prop) : Prop :=
  aC args fun a0 r => aN r <| aPtr 0 a0 <| aC H fun b0 r => aC r fun b1 r => aC r fun b2 r => aN r <| bRCells b0 fun c0 => y1c (List.take 11 c0) fun m_Lv => aRest (List.drop 11 c0) fun r => aC r fun d0_11 r => aRow 1 d0_11 <| aC r fun d0_12 r => aRow 2 d0_12 <| aN r <| bRow 6 true b1 fun (m_Bv : List (List Int)) => bRow 0 true b2 fun (m_Wv : List Int) => So (m_ m_Lv m_Bv m_Wv) fun x => K (.row 3) [.rcells (y0k m_Lv ++ [.row 1, .row 2]), .row 6 m_Bv true, .row 0 m_Wv true, .row 2 x false]
def yac (m_ : T_assartref02_Layout → (List (List Int)) → (List Int) → Option (List Pr)) : Spec := ⟨y7k m_, (⟨true, fun i => false, fun i => Nat.beq i 0⟩ : RO)⟩
def y6o (m_ : yb → T_api_Reply → T_assartref02_Layout → (List (List Int)) → (List Int) → Option Bool) (args : List V) (H : Heap) (K : V → Heap → Prop) : Prop :=
  aC args fun a0 r => aC r fun a1 r => aC r fun a2 r => aN r <| aPtr 0 a0 <| aAgg a1 fun c1 => y1o c1 fun c => aAgg a2 fun c2 => y1q c2 fun rv => aC H fun b0 r => aC r fun b1 r => aC r fun b2 r => aN r <| bRCells b0 fun c0 => y1c (List.take 11 c0) fun m_Lv => aRest (List.drop 11 c0) fun r => aC r fun d0_11 r => aRow 1 d0_11 <| aC r fun d0_12 r => aRow 2 d0_12 <| aN r <| bRow 6 true b1 fun (m_Bv : List (List Int)) => bRow 0 true b2 fun (m_Wv : List Int) => So (m_ c rv m_Lv m_Bv m_Wv) fun x => K (vb x) [.rcells (y0k m_Lv ++ [.row 1, .row 2]), .row 6 m_Bv true, .row 0 m_Wv true]
def ybd (m_ : yb → T_api_Reply → T_assartref02_Layout → (List (List Int)) → (List Int) → Option Bool) : Spec := ⟨y6o m_, (⟨true, fun i => false, fun i => Nat.beq i 0⟩ : RO)⟩
def y5a (m_ : yb → T_api_Reply → T_assartref02_Layout → (List (List Int)) → (List Int) → Option (Bool × (List (List Int)) × (List Int))) (args : List V) (H : Heap) (K : V → Heap → Prop) : Prop :=
  aC args fun a0 r => aC r fun a1 r => aC r fun a2 r => aN r <| aPtr 0 a0 <| aAgg a1 fun c1 => y1o c1 fun c => aAgg a2 fun c2 => y1q c2 fun rv => aC H fun b0 r => aC r fun b1 r => aC r fun b2 r => aN r <| bCells b0 fun U c0 => y1c (List.take 11 c0) fun m_Lv => aRest (List.drop 11 c0) fun r => aC r fun d0_11 r => aRow 1 d0_11 <| aC r fun d0_12 r => aRow 2 d0_12 <| aN r <| bRow 6 false b1 fun (m_Bv : List (List Int)) => bRow 0 false b2 fun (m_Wv : List Int) => So (m_ c rv m_Lv m_Bv m_Wv) fun x => K (vb x.1) [.cells U (y0k m_Lv ++ [.row 3, .row 4]), .dead, .dead, .row 6 x.2.1 false, .row 0 x.2.2 false]
def y7f (m_ : yb → T_api_Reply → T_assartref02_Layout → (List (List Int)) → (List Int) → Option (Bool × (List (List Int)) × (List Int))) : Spec := ⟨y5a m_, (⟨true, fun i => Nat.beq i 1 || Nat.beq i 2, fun _ => false⟩ : RO)⟩
def y6a (m_ : yb → T_api_Reply → Int → T_assartref02_Layout → (List (List Int)) → (List Int) → Option (Bool × (List (List Int)) × (List Int))) (args : List V) (H : Heap) (K : V → Heap → Prop) : Prop :=
  aC args fun a0 r => aC r fun a1 r => aC r fun a2 r => aC r fun a3 r => aN r <| aPtr 0 a0 <| aAgg a1 fun c1 => y1o c1 fun c => aAgg a2 fun c2 => y1q c2 fun rv => aInt a3 fun iv => aC H fun b0 r => aC r fun b1 r => aC r fun b2 r => aN r <| bCells b0 fun U c0 => y1c (List.take 11 c0) fun m_Lv => aRest (List.drop 11 c0) fun r => aC r fun d0_11 r => aRow 1 d0_11 <| aC r fun d0_12 r => aRow 2 d0_12 <| aN r <| bRow 6 false b1 fun (m_Bv : List (List Int)) => bRow 0 false b2 fun (m_Wv : List Int) => So (m_ c rv iv m_Lv m_Bv m_Wv) fun x => K (vb x.1) [.cells U (y0k m_Lv ++ [.row 3, .row 4]), .dead, .dead, .row 6 x.2.1 false, .row 0 x.2.2 false]
def y91 (m_ : yb → T_api_Reply → Int → T_assartref02_Layout → (List (List Int)) → (List Int) → Option (Bool × (List (List Int)) × (List Int))) : Spec := ⟨y6a m_, (⟨true, fun i => Nat.beq i 1 || Nat.beq i 2, fun _ => false⟩ : RO)⟩
def y4y (m_ : T_assartref02_Layout → (List (List Int)) → (List Int) → Option (Int × Int × Int)) (args : List V) (H : Heap) (K : V → Heap → Prop) : Prop :=
  aC args fun a0 r => aN r <| aPtr 0 a0 <| aC H fun b0 r => aC r fun b1 r => aC r fun b2 r => aN r <| bRCells b0 fun c0 => y1c (List.take 11 c0) fun m_Lv => aRest (List.drop 11 c0) fun r => aC r fun d0_11 r => aRow 1 d0_11 <| aC r fun d0_12 r => aRow 2 d0_12 <| aN r <| bRow 6 true b1 fun (m_Bv : List (List Int)) => bRow 0 true b2 fun (m_Wv : List Int) => So (m_ m_Lv m_Bv m_Wv) fun x => K (.tup [vi x.1, vi x.2.1, vi x.2.2]) [.rcells (y0k m_Lv ++ [.row 1, .row 2]), .row 6 m_Bv true, .row 0 m_Wv true]
def yar (m_ : T_assartref02_Layout → (List (List Int)) → (List Int) → Option (Int × Int × Int)) : Spec := ⟨y4y m_, (⟨true, fun i => false, fun i => Nat.beq i 0⟩ : RO)⟩
def y67 (m_ : yb → T_api_Reply → T_assartref02_Layout → (List (List Int)) → (List Int) → Option (Bool × (List (List Int)) × (List Int))) (args : List V) (H : Heap) (K : V → Heap → Prop) : Prop :=
  aC args fun a0 r => aC r fun a1 r => aC r fun a2 r => aN r <| aPtr 0 a0 <| aAgg a1 fun c1 => y1o c1 fun c => aAgg a2 fun c2 => y1q c2 fun rv => aC H fun b0 r => aC r fun b1 r => aC r fun b2 r => aN r <| bCells b0 fun U c0 => y1c (List.take 11 c0) fun m_Lv => aRest (List.drop 11 c0) fun r => aC r fun d0_11 r => aRow 1 d0_11 <| aC r fun d0_12 r => aRow 2 d0_12 <| aN r <| bRow 6 false b1 fun (m_Bv : List (List Int)) => bRow 0 false b2 fun (m_Wv : List Int) => So (m_ c rv m_Lv m_Bv m_Wv) fun x => K (vb x.1) [.cells U (y0k m_Lv ++ [.row 3, .row 4]), .dead, .dead, .row 6 x.2.1 false, .row 0 x.2.2 false]
def y8z (m_ : yb → T_api_Reply → T_assartref02_Layout → (List (List Int)) → (List Int) → Option (Bool × (List (List Int)) × (List Int))) : Spec := ⟨y67 m_, (⟨true, fun i => Nat.beq i 1 || Nat.beq i 2, fun _ => false⟩ : RO)⟩
def wk_ref20_New : List WK := [⟨true, 0, [], 0, 0, true⟩, ⟨true, 0, [], 11, 6, false⟩, ⟨true, 0, [], 12, 0, false⟩]
def y90  : Cfg := { cfgB with
  sigs := sigN,
  plan := fun r => match r with | 2 => some (List.range 8, 0) | _ => none }
def y9i (y28 : Y15) : Cfg := { cfgB with
  sigs := (sigC 104 (y9l y28) sigN) }
def y2y  : Cfg := { cfgB with
  sigs := sigN,
  keep := fun r => match r with | 2 => some [(0, none), (1, none), (5, none)] | _ => none }
def y2x  : Cfg := { cfgB with
  sigs := sigN,
  keep := fun r => match r with | 2 => some [(0, none), (1, none), (5, none)] | _ => none,
  plan := fun r => match r with | 4 => some (List.range 31, 0) | _ => none }
def wk_ref20_Model_without : List WK := [⟨false, 0, [], 11, 6, false⟩, ⟨false, 1, [], 0, 1, true⟩, ⟨false, 0, [], 12, 0, false⟩, ⟨false, 2, [], 0, 1, true⟩]
def ybg  : Cfg := { cfgB with
  sigs := sigN,
  plan := fun r => match r with | 0 => some ([0, 2, 3, 4, 5, 6, 7, 9, 10, 11, 12, 13, 14, 15, 1, 8, 16, 17, 18, 19], 43980465111041) | _ => none }
def y2u (yj y01 : Y0) (y02 : Int → T_assartref02_Layout → (List (List Int)) → (List Int) → Option Int) : Cfg := { cfgB with
  sigs := (sigC 12 (y35 yj) (sigC 53 (y5t y01) (sigC 44 (y4c y02) sigN))),
  keep := fun r => match r with | 3 => some [(0, none), (3, some 2), (4, none)] | _ => none }
def y1v (y0a : Y3) (yj y01 : Y0) (y0t : Int → T_assartref02_Layout → (List (List Int)) → (List Int) → Option Int) : Cfg := { cfgB with
  sigs := (sigC 85 (y85 y0a) (sigC 12 (y35 yj) (sigC 53 (y5t y01) (sigC 50 (y78 y0t) sigN)))),
  keep := fun r => match r with | 8 => some [(0, none), (5, none), (8, none), (9, none)] | _ => none,
  plan := fun r => match r with | 5 => some ([0, 1, 2, 3, 4, 5, 6, 7, 8, 9, 10, 11, 12, 13, 14, 15, 16, 17, 18, 19, 20, 21, 22, 23, 24, 25, 26, 27, 28, 29, 30, 31, 32, 33, 34, 35, 37, 38, 36, 39, 40, 41, 42, 43, 44, 45, 46, 47, 48], 0) | _ => none }
def wk_ref20_Model_news : List WK := [⟨false, 0, [], 11, 6, false⟩, ⟨false, 1, [], 0, 1, true⟩, ⟨false, 0, [], 12, 0, false⟩, ⟨false, 2, [], 0, 1, true⟩]
def y2n (y1a : yb → T_api_Reply → T_assartref02_Layout → (List (List Int)) → (List Int) → Option Bool) (yj : Y0) : Cfg := { cfgB with
  sigs := (sigC 84 (ybd y1a) (sigC 12 (y35 yj) sigN)),
  keep := fun r => match r with | 7 => some [(0, none), (4, none), (5, none), (7, none), (8, none)] | _ => none,
  plan := fun r => match r with | 5 => some (List.range 9, 0) | _ => none,
  planT := fun r => match r with | 10 => some ((chainT [0, 2, 3, 4, 5, 7, 8, 9, 10, 11, 12, 13] (.alt (chainT [1] (.alt (chainT [6, 14, 15, 16, 17, 18] .fin) (chainT [14, 6, 15, 16, 17, 18] .fin))) (chainT [14, 1, 6, 15, 16, 17, 18] .fin))), 41781441855489) | _ => none }
def wk_ref20_Model_again : List WK := [⟨false, 0, [], 11, 6, false⟩, ⟨false, 1, [], 0, 1, true⟩, ⟨false, 0, [], 12, 0, false⟩, ⟨false, 2, [], 0, 1, true⟩]
def y2q (y0a : Y3) (y0q : Int → T_assartref02_Layout → (List (List Int)) → (List Int) → Option ((List (List Int)) × (List Int))) (y0p : yb → T_api_Reply → T_assartref02_Layout → (List (List Int)) → (List Int) → Option (Bool × (List (List Int)) × (List Int))) (yj : Y0) (y02 : Int → T_assartref02_Layout → (List (List Int)) → (List Int) → Option Int) : Cfg := { cfgB with
  sigs := (sigC 85 (y85 y0a) (sigC 47 (y6v y0q) (sigC 45 (y7f y0p) (sigC 12 (y35 yj) (sigC 44 (y4c y02) sigN))))),
  keep := fun r => match r with | 14 => some [(0, none), (5, none), (9, none), (10, none), (11, none), (12, none)] | _ => none,
  plan := fun r => match r with | 2 => some ([0, 1, 3, 4, 2, 5], 0) | 6 => some (List.range 17, 37383395344385) | 11 => some (List.range 9, 0) | 12 => some (List.range 9, 0) | 16 => some (List.range 18, 39582418599936) | _ => none }
def y2z  : Cfg := { cfgB with
  sigs := sigN,
  keep := fun r => match r with | 4 => some [(0, none), (5, none), (6, none), (7, none)] | _ => none }
def wk_ref20_Model_Step : List WK := [⟨false, 0, [], 11, 6, false⟩, ⟨false, 0, [], 12, 0, false⟩]
def yb0 (y1s : Y10) (y02 : Int → T_assartref02_Layout → (List (List Int)) → (List Int) → Option Int) (y0p : yb → T_api_Reply → T_assartref02_Layout → (List (List Int)) → (List Int) → Option (Bool × (List (List Int)) × (List Int))) (y2k : yb → T_api_Reply → Int → T_assartref02_Layout → (List (List Int)) → (List Int) → Option (Bool × (List (List Int)) × (List Int))) (y0q : Int → T_assartref02_Layout → (List (List Int)) → (List Int) → Option ((List (List Int)) × (List Int))) (y26 : T_assartref02_Layout → (List (List Int)) → (List Int) → Option (Int × Int × Int)) (y1x : Y20) (y0t : Int → T_assartref02_Layout → (List (List Int)) → (List Int) → Option Int) (yj : Y0) : Cfg := { cfgB with
  sigs := (sigC 43 (y8n y1s) (sigC 44 (y4c y02) (sigC 45 (y7f y0p) (sigC 46 (y91 y2k) (sigC 47 (y6v y0q) (sigC 48 (yar y26) (sigC 49 (y9m y1x) (sigC 50 (y78 y0t) (sigC 12 (y35 yj) sigN))))))))),
  plan := fun r => match r with | 4 => some (List.range 6, 0) | 29 => some (List.range 12, 0) | 34 => some (List.range 22, 0) | 38 => some (List.range 38, 0) | 41 => some (List.range 9, 0) | 43 => some (List.range 11, 0) | 46 => some (List.range 9, 19791209299968) | _ => none }
theorem ydt (c : yc) (K : V → Heap → Prop) : (exFW y90 [] wk_ref20_New Try.f11 [.agg (yl c)] [] K) = (
    Req (decide (0 ≤ IntKind.i64.wrap (32 * c.Pages) ∧ IntKind.i64.wrap (32 * c.Pages) ≤ IntKind.i64.wrap (32 * c.Pages) ∧ IntKind.i64.wrap (32 * c.Pages) ≤ 1048576)) (K (.ptr 0 0) [.cells 0 (yl c ++ [.row 1, .row 2]), .row 6 ([] : List (List Int)) false, .row 0 (List.replicate (Int.toNat (IntKind.i64.wrap ((32 : Int) * c.Pages))) (0 : Int) : List Int) false])) := by kernel_rfl
theorem yfq (y28 : Y15) (n align : Int) (K : V → Heap → Prop) : (exF (y9i y28) Try.f85 [vi n, vi align] [] K) = (
    br (decide (n > 1048576)) (K (vi 0) []) (So (y28 n align) (fun (y0 : Int × Int) => (K (vi y0.1) [])))) := by kernel_rfl
theorem yfv (a : Int) (m_Lv : T_assartref02_Layout) (m_Bv : List (List Int)) (m_Wv : List Int) (iv : Int) (K : V → Heap → Prop) (J1 : Env → Heap → Prop) : (ex y2y (⟨26, 3⟩ : Cx) (at_ (bodyOf Try.f44) [1, 0, 1, 0, 0]) (mkEnv [(0, .ptr 0 0), (1, vi a), (5, vi iv)]) [.rcells (yl (Go.Rx.T_assartref02_Layout.C m_Lv) ++ [.row 1, .row 2]), .row 6 m_Bv true, .row 0 m_Wv true] (roundK y2y (⟨26, 3⟩ : Cx) (at_ (bodyOf Try.f44) [1, 0, 1, 0, 0]) (contK y2y (⟨26, 3⟩ : Cx) (bodyOf Try.f44) [1, 0, 1, 0] (retK y2y Try.f44 3 K)) J1)) = (
    br (decide (iv < (↑m_Bv.length : Int))) (Req (inR iv m_Bv.length) (Req (inR (offs iv 0) m_Bv.length) (br (List.getD (m_Bv.getD (Int.toNat (offs iv (0 : Nat))) (List.replicate (3 : Nat) (0 : Int))) (0 : Nat) (0 : Int) == a) (K (vi iv) [.rcells (yl m_Lv.C ++ [.row 1, .row 2]), .row 6 m_Bv true, .row 0 m_Wv true]) (J1 (mkEnv [(0, .ptr 0 0), (1, vi a), (5, vi (IntKind.i64.wrap (iv + 1)))]) [.rcells (yl m_Lv.C ++ [.row 1, .row 2]), .row 6 m_Bv true, .row 0 m_Wv true])))) (K (vi (-1)) [.rcells (yl m_Lv.C ++ [.row 1, .row 2]), .row 6 m_Bv true, .row 0 m_Wv true])) := by kernel_rfl
theorem yfd (a : Int) (m_Lv : T_assartref02_Layout) (m_Bv : List (List Int)) (m_Wv : List Int) (K : V → Heap → Prop) : (exF y2y Try.f44 [.ptr 0 0, vi a] [.rcells (y0k m_Lv ++ [.row 1, .row 2]), .row 6 m_Bv true, .row 0 m_Wv true] K) = (
    Loop y2y (⟨26, 3⟩ : Cx) (at_ (bodyOf Try.f44) [1, 0, 1, 0, 0]) (mkEnv [(0, .ptr 0 0), (1, vi a), (5, vi 0)]) [.rcells (yl m_Lv.C ++ [.row 1, .row 2]), .row 6 m_Bv true, .row 0 m_Wv true] (contK y2y (⟨26, 3⟩ : Cx) (bodyOf Try.f44) [1, 0, 1, 0] (retK y2y Try.f44 3 K))) := by kernel_rfl
theorem yfr (a : Int) (m_Lv : T_assartref02_Layout) (m_Bv : List (List Int)) (m_Wv : List Int) (iv : Int) (K : V → Heap → Prop) (J1 : Env → Heap → Prop) : (ex y2x (⟨47, 3⟩ : Cx) (at_ (bodyOf Try.f50) [1, 0, 1, 0, 0]) (mkEnv [(0, .ptr 0 0), (1, vi a), (5, vi iv)]) [.rcells (yl (Go.Rx.T_assartref02_Layout.C m_Lv) ++ [.row 1, .row 2]), .row 6 m_Bv true, .row 0 m_Wv true] (roundK y2x (⟨47, 3⟩ : Cx) (at_ (bodyOf Try.f50) [1, 0, 1, 0, 0]) (contK y2x (⟨47, 3⟩ : Cx) (bodyOf Try.f50) [1, 0, 1, 0] (retK y2x Try.f50 3 K)) J1)) = (
    br (decide (iv < (↑m_Bv.length : Int))) (Req (inR iv m_Bv.length) (Req (inR (offs iv 0) m_Bv.length) (br (decide (a ≥ List.getD (m_Bv.getD (Int.toNat (offs iv (0 : Nat))) (List.replicate (3 : Nat) (0 : Int))) (0 : Nat) (0 : Int))) (Req (inR iv m_Bv.length) (Req (inR (offs iv 0) m_Bv.length) (Req (inR iv m_Bv.length) (Req (inR (offs iv 0) m_Bv.length) (br (decide (a < IntKind.i64.wrap (List.getD (m_Bv.getD (Int.toNat (offs iv (0 : Nat))) (List.replicate (3 : Nat) (0 : Int))) (0 : Nat) (0 : Int) + List.getD (m_Bv.getD (Int.toNat (offs iv (0 : Nat))) (List.replicate (3 : Nat) (0 : Int))) (2 : Nat) (0 : Int)))) (K (vi iv) [.rcells (yl m_Lv.C ++ [.row 1, .row 2]), .row 6 m_Bv true, .row 0 m_Wv true]) (J1 (mkEnv [(0, .ptr 0 0), (1, vi a), (5, vi (IntKind.i64.wrap (iv + 1)))]) [.rcells (yl m_Lv.C ++ [.row 1, .row 2]), .row 6 m_Bv true, .row 0 m_Wv true])))))) (J1 (mkEnv [(0, .ptr 0 0), (1, vi a), (5, vi (IntKind.i64.wrap (iv + 1)))]) [.rcells (yl m_Lv.C ++ [.row 1, .row 2]), .row 6 m_Bv true, .row 0 m_Wv true])))) (K (vi (-1)) [.rcells (yl m_Lv.C ++ [.row 1, .row 2]), .row 6 m_Bv true, .row 0 m_Wv true])) := by kernel_rfl
theorem yei (a : Int) (m_Lv : T_assartref02_Layout) (m_Bv : List (List Int)) (m_Wv : List Int) (K : V → Heap → Prop) : (exF y2x Try.f50 [.ptr 0 0, vi a] [.rcells (y0k m_Lv ++ [.row 1, .row 2]), .row 6 m_Bv true, .row 0 m_Wv true] K) = (
    Loop y2x (⟨47, 3⟩ : Cx) (at_ (bodyOf Try.f50) [1, 0, 1, 0, 0]) (mkEnv [(0, .ptr 0 0), (1, vi a), (5, vi 0)]) [.rcells (yl m_Lv.C ++ [.row 1, .row 2]), .row 6 m_Bv true, .row 0 m_Wv true] (contK y2x (⟨47, 3⟩ : Cx) (bodyOf Try.f50) [1, 0, 1, 0] (retK y2x Try.f50 3 K))) := by kernel_rfl
theorem yff (iv : Int) (m_Lv : T_assartref02_Layout) (m_Bv : List (List Int)) (m_Wv : List Int) (U : TypeId) (K : V → Heap → Prop) : (exFW ybg [] wk_ref20_Model_without Try.f47 [.ptr 0 0, vi iv] [.cells U (y0k m_Lv ++ [.row 1, .row 2]), .row 6 m_Bv false, .row 0 m_Wv false] K) = (
    Req (decide (0 ≤ iv ∧ iv ≤ (↑m_Bv.length : Int))) (Req (decide (0 ≤ IntKind.i64.wrap (iv + 1) ∧ IntKind.i64.wrap (iv + 1) ≤ (↑m_Bv.length : Int))) (Req (decide (0 + Int.toNat iv ≤ m_Bv.length)) (Req (decide (0 + List.length (List.take (Int.toNat iv) (List.drop 0 m_Bv)) ≤ 1048576)) (Req (decide (Int.toNat (IntKind.i64.wrap (iv + 1)) + (m_Bv.length - Int.toNat (IntKind.i64.wrap (iv + 1))) ≤ m_Bv.length)) (Req (decide (List.length (List.take (Int.toNat iv) (List.drop 0 m_Bv)) + List.length (List.take (m_Bv.length - Int.toNat (IntKind.i64.wrap (iv + 1))) (List.drop (Int.toNat (IntKind.i64.wrap (iv + 1))) m_Bv)) ≤ 1048576)) (K (.tup []) [.cells U (yl m_Lv.C ++ [.row 3, .row 4]), .dead, .dead, .row 6 (List.take (Int.toNat iv) (List.drop 0 m_Bv) ++ List.take (m_Bv.length - Int.toNat (IntKind.i64.wrap (iv + 1))) (List.drop (Int.toNat (IntKind.i64.wrap (iv + 1))) m_Bv) : List (List Int)) false, .row 0 m_Wv false]))))))) := by kernel_rfl
theorem yd0 (yj y01 : Y0) (y02 : Int → T_assartref02_Layout → (List (List Int)) → (List Int) → Option Int) (m_Lv : T_assartref02_Layout) (m_Bv : List (List Int)) (m_Wv : List Int) (a : Int) (w : List Go.Rx.Pr) (K : V → Heap → Prop) (J1 : Env → Heap → Prop) : (ex (y2u yj y01 y02) (⟨39, 3⟩ : Cx) (at_ (bodyOf Try.f19) [1, 1, 0, 1, 0, 0]) (mkEnv [(0, .ptr 0 0), (3, .row 3), (4, vi a)]) [.rcells (yl (Go.Rx.T_assartref02_Layout.C m_Lv) ++ [.row 1, .row 2]), .row 6 m_Bv true, .row 0 m_Wv true, .row 2 (w : List Go.Rx.Pr) false] (roundK (y2u yj y01 y02) (⟨39, 3⟩ : Cx) (at_ (bodyOf Try.f19) [1, 1, 0, 1, 0, 0]) (contK (y2u yj y01 y02) (⟨39, 3⟩ : Cx) (bodyOf Try.f19) [1, 1, 0, 1, 0] (retK (y2u yj y01 y02) Try.f19 3 K)) J1)) = (
    So (y01 m_Lv) (fun (y0 : Int) => (br (decide (a < y0)) (So (y02 a m_Lv m_Bv m_Wv) (fun (y1 : Int) => (br (decide (y1 ≥ 0)) (Req (inR y1 m_Bv.length) (Req (inR (offs y1 0) m_Bv.length) (Req (decide (w.length + 1 ≤ 1048576)) (J1 (mkEnv [(0, .ptr 0 0), (3, .row 3), (4, vi (IntKind.i64.wrap (a + 1)))]) [.rcells (yl m_Lv.C ++ [.row 1, .row 2]), .row 6 m_Bv true, .row 0 m_Wv true, .row 2 (w ++ [Pr.mk a (List.getD (m_Bv.getD (Int.toNat (offs y1 (0 : Nat))) (List.replicate (3 : Nat) (0 : Int))) (1 : Nat) (0 : Int))] : List Pr) false])))) (J1 (mkEnv [(0, .ptr 0 0), (3, .row 3), (4, vi (IntKind.i64.wrap (a + 1)))]) [.rcells (yl m_Lv.C ++ [.row 1, .row 2]), .row 6 m_Bv true, .row 0 m_Wv true, .row 2 w false])))) (K (.row 3) [.rcells (yl m_Lv.C ++ [.row 1, .row 2]), .row 6 m_Bv true, .row 0 m_Wv true, .row 2 w false])))) := by kernel_rfl
theorem ycr (yj y01 : Y0) (y02 : Int → T_assartref02_Layout → (List (List Int)) → (List Int) → Option Int) (m_Lv : T_assartref02_Layout) (m_Bv : List (List Int)) (m_Wv : List Int) (K : V → Heap → Prop) : (exF (y2u yj y01 y02) Try.f19 [.ptr 0 0] [.rcells (y0k m_Lv ++ [.row 1, .row 2]), .row 6 m_Bv true, .row 0 m_Wv true] K) = (
    So (yj m_Lv) (fun (y0 : Int) => (Loop (y2u yj y01 y02) (⟨39, 3⟩ : Cx) (at_ (bodyOf Try.f19) [1, 1, 0, 1, 0, 0]) (mkEnv [(0, .ptr 0 0), (3, .row 3), (4, vi y0)]) [.rcells (yl m_Lv.C ++ [.row 1, .row 2]), .row 6 m_Bv true, .row 0 m_Wv true, .row 2 ([] : List Pr) false] (contK (y2u yj y01 y02) (⟨39, 3⟩ : Cx) (bodyOf Try.f19) [1, 1, 0, 1, 0] (retK (y2u yj y01 y02) Try.f19 3 K))))) := by kernel_rfl
theorem ye1 (y0a : Y3) (yj y01 : Y0) (y0t : Int → T_assartref02_Layout → (List (List Int)) → (List Int) → Option Int) (c : yb) (rv : T_api_Reply) (m_Lv : T_assartref02_Layout) (m_Bv : List (List Int)) (m_Wv : List Int) (want a : Int) (K : V → Heap → Prop) (J1 : Env → Heap → Prop) : (ex (y1v y0a yj y01 y0t) (⟨82, 3⟩ : Cx) (at_ (bodyOf Try.f84) [1, 1, 1, 1, 1, 0, 1, 0, 0]) (mkEnv [(0, .ptr 0 0), (5, .ptr 3 0), (8, vi want), (9, vi a)]) [.rcells (yl (Go.Rx.T_assartref02_Layout.C m_Lv) ++ [.row 1, .row 2]), .row 6 m_Bv true, .row 0 m_Wv true, .cells 46 (y0l rv)] (roundK (y1v y0a yj y01 y0t) (⟨82, 3⟩ : Cx) (at_ (bodyOf Try.f84) [1, 1, 1, 1, 1, 0, 1, 0, 0]) (contK (y1v y0a yj y01 y0t) (⟨82, 3⟩ : Cx) (bodyOf Try.f84) [1, 1, 1, 1, 1, 0, 1, 0] (retK (y1v y0a yj y01 y0t) Try.f84 3 K)) J1)) = (
    br (decide (a < IntKind.i64.wrap (rv.Addr + want))) (So (y0t a m_Lv m_Bv m_Wv) (fun (y0 : Int) => (br (decide (y0 ≥ 0)) (K (vb false) [.rcells (yl m_Lv.C ++ [.row 1, .row 2]), .row 6 m_Bv true, .row 0 m_Wv true]) (J1 (mkEnv [(0, .ptr 0 0), (5, .ptr 3 0), (8, vi want), (9, vi (IntKind.i64.wrap (a + 1)))]) [.rcells (yl m_Lv.C ++ [.row 1, .row 2]), .row 6 m_Bv true, .row 0 m_Wv true, .cells 46 (y0l rv)])))) (K (vb true) [.rcells (yl m_Lv.C ++ [.row 1, .row 2]), .row 6 m_Bv true, .row 0 m_Wv true])) := by kernel_rfl
theorem yf5 (y0a : Y3) (yj y01 : Y0) (y0t : Int → T_assartref02_Layout → (List (List Int)) → (List Int) → Option Int) (c : yb) (rv : T_api_Reply) (m_Lv : T_assartref02_Layout) (m_Bv : List (List Int)) (m_Wv : List Int) (K : V → Heap → Prop) : (exF (y1v y0a yj y01 y0t) Try.f84 [.ptr 0 0, .agg (y0u c), .agg (y0l rv)] [.rcells (y0k m_Lv ++ [.row 1, .row 2]), .row 6 m_Bv true, .row 0 m_Wv true] K) = (
    br (c.Kind == 5) (So (y0a c.Size c.Align) (fun (y0 : Int) => (br (y0 == 0) (K (vb false) [.rcells (yl m_Lv.C ++ [.row 1, .row 2]), .row 6 m_Bv true, .row 0 m_Wv true]) (br (!(rv.Err == 0 && (rv.Addr == rv.Addr && (rv.Size == y0 && (rv.Value == 0 && (rv.Stats.Blocks == 0 && (rv.Stats.Asked == 0 && (rv.Stats.Words == 0 && (rv.Stats.Kept == 0 && (rv.Stats.Open == 0 && (rv.Stats.Mapped == 0 && (rv.Stats.Used == 0 && true)))))) && true)))))) (K (vb false) [.rcells (yl m_Lv.C ++ [.row 1, .row 2]), .row 6 m_Bv true, .row 0 m_Wv true]) (So (yj m_Lv) (fun (y1 : Int) => (br (decide (rv.Addr < y1)) (K (vb false) [.rcells (yl m_Lv.C ++ [.row 1, .row 2]), .row 6 m_Bv true, .row 0 m_Wv true]) (So (y01 m_Lv) (fun (y2 : Int) => (br (decide (rv.Addr ≥ y2)) (K (vb false) [.rcells (yl m_Lv.C ++ [.row 1, .row 2]), .row 6 m_Bv true, .row 0 m_Wv true]) (So (y01 m_Lv) (fun (y3 : Int) => (br (decide (y0 > IntKind.i64.wrap (y3 - rv.Addr))) (K (vb false) [.rcells (yl m_Lv.C ++ [.row 1, .row 2]), .row 6 m_Bv true, .row 0 m_Wv true]) (Req (!c.Align == 0) (br (Int.tmod rv.Addr c.Align != 0) (K (vb false) [.rcells (yl m_Lv.C ++ [.row 1, .row 2]), .row 6 m_Bv true, .row 0 m_Wv true]) (Loop (y1v y0a yj y01 y0t) (⟨82, 3⟩ : Cx) (at_ (bodyOf Try.f84) [1, 1, 1, 1, 1, 0, 1, 0, 0]) (mkEnv [(0, .ptr 0 0), (5, .ptr 3 0), (8, vi y0), (9, vi rv.Addr)]) [.rcells (yl m_Lv.C ++ [.row 1, .row 2]), .row 6 m_Bv true, .row 0 m_Wv true, .cells 46 (y0l rv)] (contK (y1v y0a yj y01 y0t) (⟨82, 3⟩ : Cx) (bodyOf Try.f84) [1, 1, 1, 1, 1, 0, 1, 0] (retK (y1v y0a yj y01 y0t) Try.f84 3 K)))))))))))))))))) (So (y0a c.Size 1) (fun (y4 : Int) => (br (y4 == 0) (K (vb false) [.rcells (yl m_Lv.C ++ [.row 1, .row 2]), .row 6 m_Bv true, .row 0 m_Wv true]) (br (!(rv.Err == 0 && (rv.Addr == rv.Addr && (rv.Size == y4 && (rv.Value == 0 && (rv.Stats.Blocks == 0 && (rv.Stats.Asked == 0 && (rv.Stats.Words == 0 && (rv.Stats.Kept == 0 && (rv.Stats.Open == 0 && (rv.Stats.Mapped == 0 && (rv.Stats.Used == 0 && true)))))) && true)))))) (K (vb false) [.rcells (yl m_Lv.C ++ [.row 1, .row 2]), .row 6 m_Bv true, .row 0 m_Wv true]) (So (yj m_Lv) (fun (y5 : Int) => (br (decide (rv.Addr < y5)) (K (vb false) [.rcells (yl m_Lv.C ++ [.row 1, .row 2]), .row 6 m_Bv true, .row 0 m_Wv true]) (So (y01 m_Lv) (fun (y6 : Int) => (br (decide (rv.Addr ≥ y6)) (K (vb false) [.rcells (yl m_Lv.C ++ [.row 1, .row 2]), .row 6 m_Bv true, .row 0 m_Wv true]) (So (y01 m_Lv) (fun (y7 : Int) => (br (decide (y4 > IntKind.i64.wrap (y7 - rv.Addr))) (K (vb false) [.rcells (yl m_Lv.C ++ [.row 1, .row 2]), .row 6 m_Bv true, .row 0 m_Wv true]) (br (Int.tmod rv.Addr 1 != 0) (K (vb false) [.rcells (yl m_Lv.C ++ [.row 1, .row 2]), .row 6 m_Bv true, .row 0 m_Wv true]) (Loop (y1v y0a yj y01 y0t) (⟨82, 3⟩ : Cx) (at_ (bodyOf Try.f84) [1, 1, 1, 1, 1, 0, 1, 0, 0]) (mkEnv [(0, .ptr 0 0), (5, .ptr 3 0), (8, vi y4), (9, vi rv.Addr)]) [.rcells (yl m_Lv.C ++ [.row 1, .row 2]), .row 6 m_Bv true, .row 0 m_Wv true, .cells 46 (y0l rv)] (contK (y1v y0a yj y01 y0t) (⟨82, 3⟩ : Cx) (bodyOf Try.f84) [1, 1, 1, 1, 1, 0, 1, 0] (retK (y1v y0a yj y01 y0t) Try.f84 3 K)))))))))))))))))) := by kernel_rfl
theorem ych (y1a : yb → T_api_Reply → T_assartref02_Layout → (List (List Int)) → (List Int) → Option Bool) (yj : Y0) (c : yb) (rv : T_api_Reply) (m_Lv : T_assartref02_Layout) (m_Bv : List (List Int)) (m_Wv : List Int) (U : TypeId) (fromv iv : Int) (m_Wvv : List Int) (K : V → Heap → Prop) (J1 : Env → Heap → Prop) : (ex (y2n y1a yj) (⟨62, 3⟩ : Cx) (at_ (bodyOf Try.f45) [1, 1, 1, 1, 0, 1, 0, 0]) (mkEnv [(0, .ptr 0 0), (4, .ptr 3 0), (5, .ptr 4 0), (7, vi fromv), (8, vi iv)]) [.cells U (yl (Go.Rx.T_assartref02_Layout.C m_Lv) ++ [.row 1, .row 2]), .row 6 m_Bv false, .row 0 m_Wvv false, .cells 42 (y0u c), .cells 46 (y0l rv)] (roundK (y2n y1a yj) (⟨62, 3⟩ : Cx) (at_ (bodyOf Try.f45) [1, 1, 1, 1, 0, 1, 0, 0]) (contK (y2n y1a yj) (⟨62, 3⟩ : Cx) (bodyOf Try.f45) [1, 1, 1, 1, 0, 1, 0] (retW (y2n y1a yj) wk_ref20_Model_news Try.f45 3 K)) J1)) = (
    br (decide (iv < rv.Size)) (br (c.Kind == 3) (Req (inR (IntKind.i64.wrap (fromv + iv)) m_Wvv.length) (Req (inR (offs (IntKind.i64.wrap (fromv + iv)) 0) m_Wvv.length) (J1 (mkEnv [(0, .ptr 0 0), (4, .ptr 3 0), (5, .ptr 4 0), (7, vi fromv), (8, vi (IntKind.i64.wrap (iv + 1)))]) [.cells U (yl m_Lv.C ++ [.row 1, .row 2]), .row 6 m_Bv false, .row 0 (List.set m_Wvv (Int.toNat (offs (IntKind.i64.wrap (fromv + iv)) 0)) 0 : List Int) false, .cells 42 (y0u c), .cells 46 (y0l rv)]))) (((Req (decide (0 + m_Bv.length ≤ 1048576)) (Req (decide (m_Bv.length + 1 ≤ 1048576)) (K (vb true) [.cells U (yl m_Lv.C ++ [.row 3, .row 4]), .dead, .dead, .row 6 (m_Bv ++ [[rv.Addr, c.Size, rv.Size]] : List (List Int)) false, .row 0 m_Wvv false]))) ∧ (Req (decide (0 + m_Bv.length ≤ 1048576)) (Req (decide (m_Bv.length + 1 ≤ 1048576)) (K (vb true) [.cells U (yl m_Lv.C ++ [.row 3, .row 4]), .dead, .dead, .row 6 (m_Bv ++ [[rv.Addr, c.Size, rv.Size]] : List (List Int)) false, .row 0 m_Wvv false])))) ∧ (Req (decide (0 + m_Bv.length ≤ 1048576)) (Req (decide (m_Bv.length + 1 ≤ 1048576)) (K (vb true) [.cells U (yl m_Lv.C ++ [.row 3, .row 4]), .dead, .dead, .row 6 (m_Bv ++ [[rv.Addr, c.Size, rv.Size]] : List (List Int)) false, .row 0 m_Wvv false]))))) (((Req (decide (0 + m_Bv.length ≤ 1048576)) (Req (decide (m_Bv.length + 1 ≤ 1048576)) (K (vb true) [.cells U (yl m_Lv.C ++ [.row 3, .row 4]), .dead, .dead, .row 6 (m_Bv ++ [[rv.Addr, c.Size, rv.Size]] : List (List Int)) false, .row 0 m_Wvv false]))) ∧ (Req (decide (0 + m_Bv.length ≤ 1048576)) (Req (decide (m_Bv.length + 1 ≤ 1048576)) (K (vb true) [.cells U (yl m_Lv.C ++ [.row 3, .row 4]), .dead, .dead, .row 6 (m_Bv ++ [[rv.Addr, c.Size, rv.Size]] : List (List Int)) false, .row 0 m_Wvv false])))) ∧ (Req (decide (0 + m_Bv.length ≤ 1048576)) (Req (decide (m_Bv.length + 1 ≤ 1048576)) (K (vb true) [.cells U (yl m_Lv.C ++ [.row 3, .row 4]), .dead, .dead, .row 6 (m_Bv ++ [[rv.Addr, c.Size, rv.Size]] : List (List Int)) false, .row 0 m_Wvv false]))))) := by kernel_rfl
theorem yg6 (y1a : yb → T_api_Reply → T_assartref02_Layout → (List (List Int)) → (List Int) → Option Bool) (yj : Y0) (c : yb) (rv : T_api_Reply) (m_Lv : T_assartref02_Layout) (m_Bv : List (List Int)) (m_Wv : List Int) (U : TypeId) (K : V → Heap → Prop) : (exFW (y2n y1a yj) [] wk_ref20_Model_news Try.f45 [.ptr 0 0, .agg (y0u c), .agg (y0l rv)] [.cells U (y0k m_Lv ++ [.row 1, .row 2]), .row 6 m_Bv false, .row 0 m_Wv false] K) = (
    br (rv.Err == 6 && (rv.Addr == 0 && (rv.Size == 0 && (rv.Value == 0 && (rv.Stats.Blocks == 0 && (rv.Stats.Asked == 0 && (rv.Stats.Words == 0 && (rv.Stats.Kept == 0 && (rv.Stats.Open == 0 && (rv.Stats.Mapped == 0 && (rv.Stats.Used == 0 && true)))))) && true))))) (K (vb true) [.cells U (yl m_Lv.C ++ [.row 3, .row 4]), .dead, .dead, .row 6 m_Bv false, .row 0 m_Wv false]) (So (y1a c rv m_Lv m_Bv m_Wv) (fun (y0 : Bool) => (br (!y0) (K (vb false) [.cells U (yl m_Lv.C ++ [.row 3, .row 4]), .dead, .dead, .row 6 m_Bv false, .row 0 m_Wv false]) (So (yj m_Lv) (fun (y1 : Int) => (Loop (y2n y1a yj) (⟨62, 3⟩ : Cx) (at_ (bodyOf Try.f45) [1, 1, 1, 1, 0, 1, 0, 0]) (mkEnv [(0, .ptr 0 0), (4, .ptr 3 0), (5, .ptr 4 0), (7, vi (IntKind.i64.wrap (rv.Addr - y1))), (8, vi 0)]) [.cells U (yl m_Lv.C ++ [.row 1, .row 2]), .row 6 m_Bv false, .row 0 m_Wv false, .cells 42 (y0u c), .cells 46 (y0l rv)] (contK (y2n y1a yj) (⟨62, 3⟩ : Cx) (bodyOf Try.f45) [1, 1, 1, 1, 0, 1, 0] (retW (y2n y1a yj) wk_ref20_Model_news Try.f45 3 K))))))))) := by kernel_rfl
theorem yfk (y0a : Y3) (y0q : Int → T_assartref02_Layout → (List (List Int)) → (List Int) → Option ((List (List Int)) × (List Int))) (y0p : yb → T_api_Reply → T_assartref02_Layout → (List (List Int)) → (List Int) → Option (Bool × (List (List Int)) × (List Int))) (yj : Y0) (y02 : Int → T_assartref02_Layout → (List (List Int)) → (List Int) → Option Int) (c : yb) (rv : T_api_Reply) (iv : Int) (m_Lv : T_assartref02_Layout) (m_Bv : List (List Int)) (m_Wv : List Int) (U : TypeId) (to fromv k : Int) (c2 : y2i) (w : List (List Int)) (w2 : List Int) (K : V → Heap → Prop) (J1 : Env → Heap → Prop) : (ex (y2q y0a y0q y0p yj y02) (⟨111, 3⟩ : Cx) (at_ (bodyOf Try.f46) [1, 1, 1, 1, 0, 1, 0, 1, 1, 0, 1, 0, 0]) (mkEnv [(0, .ptr 0 0), (5, .ptr 3 0), (9, .ptr 4 0), (10, vi to), (11, vi fromv), (12, vi k)]) [.cells U (yl (Go.Rx.T_assartref02_Layout.C m_Lv) ++ [.row 5, .row 6]), .dead, .dead, .cells 42 (y0u c), .cells 59 (y4h c2), .row 6 w false, .row 0 w2 false] (roundK (y2q y0a y0q y0p yj y02) (⟨111, 3⟩ : Cx) (at_ (bodyOf Try.f46) [1, 1, 1, 1, 0, 1, 0, 1, 1, 0, 1, 0, 0]) (contK (y2q y0a y0q y0p yj y02) (⟨111, 3⟩ : Cx) (bodyOf Try.f46) [1, 1, 1, 1, 0, 1, 0, 1, 1, 0, 1, 0] (retW (y2q y0a y0q y0p yj y02) wk_ref20_Model_again Try.f46 3 K)) J1)) = (
    br (decide (k < c2.Asked)) (br (decide (k < c.Size)) (Req (inR (IntKind.i64.wrap (fromv + k)) w2.length) (Req (inR (offs (IntKind.i64.wrap (fromv + k)) 0) w2.length) (Req (inR (IntKind.i64.wrap (to + k)) w2.length) (Req (inR (offs (IntKind.i64.wrap (to + k)) 0) w2.length) (J1 (mkEnv [(0, .ptr 0 0), (5, .ptr 3 0), (9, .ptr 4 0), (10, vi to), (11, vi fromv), (12, vi (IntKind.i64.wrap (k + 1)))]) [.cells U (yl m_Lv.C ++ [.row 5, .row 6]), .dead, .dead, .cells 42 (y0u c), .cells 59 (y4h c2), .row 6 w false, .row 0 (List.set w2 (Int.toNat (offs (IntKind.i64.wrap (to + k)) 0)) (w2.getD (Int.toNat (offs (IntKind.i64.wrap (fromv + k)) 0)) 0) : List Int) false]))))) (So (y02 c2.A m_Lv w w2) (fun (y0 : Int) => (So (y0q y0 m_Lv w w2) (fun (y1 : List (List Int) × List Int) => (K (vb true) [.cells U (yl m_Lv.C ++ [.row 3, .row 4]), .dead, .dead, .row 6 (y1.1 : List (List Int)) false, .row 0 (y1.2 : List Int) false])))))) (So (y02 c2.A m_Lv w w2) (fun (y2 : Int) => (So (y0q y2 m_Lv w w2) (fun (y3 : List (List Int) × List Int) => (K (vb true) [.cells U (yl m_Lv.C ++ [.row 3, .row 4]), .dead, .dead, .row 6 (y3.1 : List (List Int)) false, .row 0 (y3.2 : List Int) false])))))) := by kernel_rfl
theorem yct (y0a : Y3) (y0q : Int → T_assartref02_Layout → (List (List Int)) → (List Int) → Option ((List (List Int)) × (List Int))) (y0p : yb → T_api_Reply → T_assartref02_Layout → (List (List Int)) → (List Int) → Option (Bool × (List (List Int)) × (List Int))) (yj : Y0) (y02 : Int → T_assartref02_Layout → (List (List Int)) → (List Int) → Option Int) (c : yb) (rv : T_api_Reply) (iv : Int) (m_Lv : T_assartref02_Layout) (m_Bv : List (List Int)) (m_Wv : List Int) (U : TypeId) (K : V → Heap → Prop) : (exFW (y2q y0a y0q y0p yj y02) [] wk_ref20_Model_again Try.f46 [.ptr 0 0, .agg (y0u c), .agg (y0l rv), vi iv] [.cells U (y0k m_Lv ++ [.row 1, .row 2]), .row 6 m_Bv false, .row 0 m_Wv false] K) = (
    Req (inR iv m_Bv.length) (Req (inR (offs iv 0) m_Bv.length) (So (y0a c.Size 1) (fun (y0 : Int) => (br (y0 == List.getD (m_Bv.getD (Int.toNat (offs iv (0 : Nat))) (List.replicate (3 : Nat) (0 : Int))) (2 : Nat) (0 : Int)) (br (!(rv.Err == (0 : Int) && (rv.Addr == List.getD (m_Bv.getD (Int.toNat (offs iv (0 : Nat))) (List.replicate (3 : Nat) (0 : Int))) (0 : Nat) (0 : Int) && (rv.Size == List.getD (m_Bv.getD (Int.toNat (offs iv (0 : Nat))) (List.replicate (3 : Nat) (0 : Int))) (2 : Nat) (0 : Int) && (rv.Value == (0 : Int) && (rv.Stats.Blocks == (0 : Int) && (rv.Stats.Asked == (0 : Int) && (rv.Stats.Words == (0 : Int) && (rv.Stats.Kept == (0 : Int) && (rv.Stats.Open == (0 : Int) && (rv.Stats.Mapped == (0 : Int) && (rv.Stats.Used == (0 : Int) && true)))))) && true)))))) (K (vb false) [.cells U (yl m_Lv.C ++ [.row 3, .row 4]), .dead, .dead, .row 6 m_Bv false, .row 0 m_Wv false]) (So (y0q iv m_Lv m_Bv m_Wv) (fun (y1 : List (List Int) × List Int) => (Req (decide (y1.1.length + 1 ≤ 1048576)) (K (vb true) [.cells U (yl m_Lv.C ++ [.row 3, .row 4]), .dead, .dead, .row 6 (y1.1 ++ [[List.getD (m_Bv.getD (Int.toNat (offs iv (0 : Nat))) (List.replicate (3 : Nat) (0 : Int))) (0 : Nat) (0 : Int), c.Size, List.getD (m_Bv.getD (Int.toNat (offs iv (0 : Nat))) (List.replicate (3 : Nat) (0 : Int))) (2 : Nat) (0 : Int)]] : List (List Int)) false, .row 0 (y1.2 : List Int) false]))))) (So (y0p c rv m_Lv m_Bv m_Wv) (fun (y2 : Bool × List (List Int) × List Int) => (br (!y2.1) (K (vb false) [.cells U (yl m_Lv.C ++ [.row 3, .row 4]), .dead, .dead, .row 6 (y2.2.1 : List (List Int)) false, .row 0 (y2.2.2 : List Int) false]) (br (rv.Err == 0) (So (yj m_Lv) (fun (y3 : Int) => (So (yj m_Lv) (fun (y4 : Int) => (Loop (y2q y0a y0q y0p yj y02) (⟨111, 3⟩ : Cx) (at_ (bodyOf Try.f46) [1, 1, 1, 1, 0, 1, 0, 1, 1, 0, 1, 0, 0]) (mkEnv [(0, .ptr 0 0), (5, .ptr 3 0), (9, .ptr 4 0), (10, vi (IntKind.i64.wrap (rv.Addr - y3))), (11, vi (IntKind.i64.wrap (List.getD (m_Bv.getD (Int.toNat (offs iv (0 : Nat))) (List.replicate (3 : Nat) (0 : Int))) (0 : Nat) (0 : Int) - y4))), (12, vi 0)]) [.cells U (yl m_Lv.C ++ [.row 5, .row 6]), .dead, .dead, .cells 42 (y0u c), .cells 59 [vi (List.getD (m_Bv.getD (Int.toNat (offs iv (0 : Nat))) (List.replicate (3 : Nat) (0 : Int))) (0 : Nat) (0 : Int)), vi (List.getD (m_Bv.getD (Int.toNat (offs iv (0 : Nat))) (List.replicate (3 : Nat) (0 : Int))) (1 : Nat) (0 : Int)), vi (List.getD (m_Bv.getD (Int.toNat (offs iv (0 : Nat))) (List.replicate (3 : Nat) (0 : Int))) (2 : Nat) (0 : Int))], .row 6 (y2.2.1 : List (List Int)) false, .row 0 (y2.2.2 : List Int) false] (contK (y2q y0a y0q y0p yj y02) (⟨111, 3⟩ : Cx) (bodyOf Try.f46) [1, 1, 1, 1, 0, 1, 0, 1, 1, 0, 1, 0] (retW (y2q y0a y0q y0p yj y02) wk_ref20_Model_again Try.f46 3 K))))))) (K (vb true) [.cells U (yl m_Lv.C ++ [.row 3, .row 4]), .dead, .dead, .row 6 (y2.2.1 : List (List Int)) false, .row 0 (y2.2.2 : List Int) false])))))))))) := by kernel_rfl
theorem ydi (m_Lv : T_assartref02_Layout) (m_Bv : List (List Int)) (m_Wv : List Int) (asked words iv : Int) (K : V → Heap → Prop) (J1 : Env → Heap → Prop) : (ex y2z (⟨44, 3⟩ : Cx) (at_ (bodyOf Try.f48) [1, 1, 1, 0, 1, 0, 0]) (mkEnv [(0, .ptr 0 0), (5, vi asked), (6, vi words), (7, vi iv)]) [.rcells (yl (Go.Rx.T_assartref02_Layout.C m_Lv) ++ [.row 1, .row 2]), .row 6 m_Bv true, .row 0 m_Wv true] (roundK y2z (⟨44, 3⟩ : Cx) (at_ (bodyOf Try.f48) [1, 1, 1, 0, 1, 0, 0]) (contK y2z (⟨44, 3⟩ : Cx) (bodyOf Try.f48) [1, 1, 1, 0, 1, 0] (retK y2z Try.f48 3 K)) J1)) = (
    br (decide (iv < (↑m_Bv.length : Int))) (Req (inR iv m_Bv.length) (Req (inR (offs iv 0) m_Bv.length) (Req (inR iv m_Bv.length) (Req (inR (offs iv 0) m_Bv.length) (J1 (mkEnv [(0, .ptr 0 0), (5, vi (IntKind.i64.wrap (asked + List.getD (m_Bv.getD (Int.toNat (offs iv (0 : Nat))) (List.replicate (3 : Nat) (0 : Int))) (1 : Nat) (0 : Int)))), (6, vi (IntKind.i64.wrap (words + List.getD (m_Bv.getD (Int.toNat (offs iv (0 : Nat))) (List.replicate (3 : Nat) (0 : Int))) (2 : Nat) (0 : Int)))), (7, vi (IntKind.i64.wrap (iv + 1)))]) [.rcells (yl m_Lv.C ++ [.row 1, .row 2]), .row 6 m_Bv true, .row 0 m_Wv true]))))) (K (.tup [vi (↑m_Bv.length : Int), vi asked, vi words]) [.rcells (yl m_Lv.C ++ [.row 1, .row 2]), .row 6 m_Bv true, .row 0 m_Wv true])) := by kernel_rfl
theorem yeh (m_Lv : T_assartref02_Layout) (m_Bv : List (List Int)) (m_Wv : List Int) (K : V → Heap → Prop) : (exF y2z Try.f48 [.ptr 0 0] [.rcells (y0k m_Lv ++ [.row 1, .row 2]), .row 6 m_Bv true, .row 0 m_Wv true] K) = (
    Loop y2z (⟨44, 3⟩ : Cx) (at_ (bodyOf Try.f48) [1, 1, 1, 0, 1, 0, 0]) (mkEnv [(0, .ptr 0 0), (5, vi 0), (6, vi 0), (7, vi 0)]) [.rcells (yl m_Lv.C ++ [.row 1, .row 2]), .row 6 m_Bv true, .row 0 m_Wv true] (contK y2z (⟨44, 3⟩ : Cx) (bodyOf Try.f48) [1, 1, 1, 0, 1, 0] (retK y2z Try.f48 3 K))) := by kernel_rfl
theorem ycw (y1s : Y10) (y02 : Int → T_assartref02_Layout → (List (List Int)) → (List Int) → Option Int) (y0p : yb → T_api_Reply → T_assartref02_Layout → (List (List Int)) → (List Int) → Option (Bool × (List (List Int)) × (List Int))) (y2k : yb → T_api_Reply → Int → T_assartref02_Layout → (List (List Int)) → (List Int) → Option (Bool × (List (List Int)) × (List Int))) (y0q : Int → T_assartref02_Layout → (List (List Int)) → (List Int) → Option ((List (List Int)) × (List Int))) (y26 : T_assartref02_Layout → (List (List Int)) → (List Int) → Option (Int × Int × Int)) (y1x : Y20) (y0t : Int → T_assartref02_Layout → (List (List Int)) → (List Int) → Option Int) (yj : Y0) (c : yb) (rv : T_api_Reply) (m_Lv : T_assartref02_Layout) (m_Bv : List (List Int)) (m_Wv : List Int) (U : TypeId) (K : V → Heap → Prop) : (exFW (yb0 y1s y02 y0p y2k y0q y26 y1x y0t yj) [] wk_ref20_Model_Step Try.f16 [.ptr 0 0, .agg (y0u c), .agg (y0l rv)] [.cells U (y0k m_Lv ++ [.row 1, .row 2]), .row 6 m_Bv false, .row 0 m_Wv false] K) = (
    br (rv.Err == 8 && (rv.Addr == 0 && (rv.Size == 0 && (rv.Value == 0 && (rv.Stats.Blocks == 0 && (rv.Stats.Asked == 0 && (rv.Stats.Words == 0 && (rv.Stats.Kept == 0 && (rv.Stats.Open == 0 && (rv.Stats.Mapped == 0 && (rv.Stats.Used == 0 && true)))))) && true))))) (K (vb true) [.cells U (yl m_Lv.C ++ [.row 3, .row 4]), .dead, .dead, .row 6 m_Bv false, .row 0 m_Wv false]) (So (y1s c) (fun (y0 : Int) => (br (y0 != 0) (So (y1s c) (fun (y1 : Int) => (K (vb (rv.Err == y1 && (rv.Addr == 0 && (rv.Size == 0 && (rv.Value == 0 && (rv.Stats.Blocks == 0 && (rv.Stats.Asked == 0 && (rv.Stats.Words == 0 && (rv.Stats.Kept == 0 && (rv.Stats.Open == 0 && (rv.Stats.Mapped == 0 && (rv.Stats.Used == 0 && true)))))) && true)))))) [.cells U (yl m_Lv.C ++ [.row 3, .row 4]), .dead, .dead, .row 6 m_Bv false, .row 0 m_Wv false]))) (So (y02 c.Addr m_Lv m_Bv m_Wv) (fun (y2 : Int) => (br (c.Kind == 1) (So (y0p c rv m_Lv m_Bv m_Wv) (fun (y3 : Bool × List (List Int) × List Int) => (K (vb y3.1) [.cells U (yl m_Lv.C ++ [.row 3, .row 4]), .dead, .dead, .row 6 (y3.2.1 : List (List Int)) false, .row 0 (y3.2.2 : List Int) false]))) (br (c.Kind == 3) (So (y0p c rv m_Lv m_Bv m_Wv) (fun (y4 : Bool × List (List Int) × List Int) => (K (vb y4.1) [.cells U (yl m_Lv.C ++ [.row 3, .row 4]), .dead, .dead, .row 6 (y4.2.1 : List (List Int)) false, .row 0 (y4.2.2 : List Int) false]))) (br (c.Kind == 5) (So (y0p c rv m_Lv m_Bv m_Wv) (fun (y5 : Bool × List (List Int) × List Int) => (K (vb y5.1) [.cells U (yl m_Lv.C ++ [.row 3, .row 4]), .dead, .dead, .row 6 (y5.2.1 : List (List Int)) false, .row 0 (y5.2.2 : List Int) false]))) (br (c.Kind == 4) (br (c.Addr == 0) (So (y0p c rv m_Lv m_Bv m_Wv) (fun (y6 : Bool × List (List Int) × List Int) => (K (vb y6.1) [.cells U (yl m_Lv.C ++ [.row 3, .row 4]), .dead, .dead, .row 6 (y6.2.1 : List (List Int)) false, .row 0 (y6.2.2 : List Int) false]))) (br (decide (y2 < 0)) (K (vb (rv.Err == 7 && (rv.Addr == 0 && (rv.Size == 0 && (rv.Value == 0 && (rv.Stats.Blocks == 0 && (rv.Stats.Asked == 0 && (rv.Stats.Words == 0 && (rv.Stats.Kept == 0 && (rv.Stats.Open == 0 && (rv.Stats.Mapped == 0 && (rv.Stats.Used == 0 && true)))))) && true)))))) [.cells U (yl m_Lv.C ++ [.row 3, .row 4]), .dead, .dead, .row 6 m_Bv false, .row 0 m_Wv false]) (So (y2k c rv y2 m_Lv m_Bv m_Wv) (fun (y7 : Bool × List (List Int) × List Int) => (K (vb y7.1) [.cells U (yl m_Lv.C ++ [.row 3, .row 4]), .dead, .dead, .row 6 (y7.2.1 : List (List Int)) false, .row 0 (y7.2.2 : List Int) false]))))) (br (c.Kind == 2) (br (c.Addr != 0) (br (decide (y2 < 0)) (K (vb (rv.Err == 7 && (rv.Addr == 0 && (rv.Size == 0 && (rv.Value == 0 && (rv.Stats.Blocks == 0 && (rv.Stats.Asked == 0 && (rv.Stats.Words == 0 && (rv.Stats.Kept == 0 && (rv.Stats.Open == 0 && (rv.Stats.Mapped == 0 && (rv.Stats.Used == 0 && true)))))) && true)))))) [.cells U (yl m_Lv.C ++ [.row 3, .row 4]), .dead, .dead, .row 6 m_Bv false, .row 0 m_Wv false]) (br (!(rv.Err == 0 && (rv.Addr == 0 && (rv.Size == 0 && (rv.Value == 0 && (rv.Stats.Blocks == 0 && (rv.Stats.Asked == 0 && (rv.Stats.Words == 0 && (rv.Stats.Kept == 0 && (rv.Stats.Open == 0 && (rv.Stats.Mapped == 0 && (rv.Stats.Used == 0 && true)))))) && true)))))) (K (vb false) [.cells U (yl m_Lv.C ++ [.row 3, .row 4]), .dead, .dead, .row 6 m_Bv false, .row 0 m_Wv false]) (br (decide (y2 ≥ 0)) (So (y0q y2 m_Lv m_Bv m_Wv) (fun (y8 : List (List Int) × List Int) => (K (vb true) [.cells U (yl m_Lv.C ++ [.row 3, .row 4]), .dead, .dead, .row 6 (y8.1 : List (List Int)) false, .row 0 (y8.2 : List Int) false]))) (K (vb true) [.cells U (yl m_Lv.C ++ [.row 3, .row 4]), .dead, .dead, .row 6 m_Bv false, .row 0 m_Wv false])))) (br (!(rv.Err == 0 && (rv.Addr == 0 && (rv.Size == 0 && (rv.Value == 0 && (rv.Stats.Blocks == 0 && (rv.Stats.Asked == 0 && (rv.Stats.Words == 0 && (rv.Stats.Kept == 0 && (rv.Stats.Open == 0 && (rv.Stats.Mapped == 0 && (rv.Stats.Used == 0 && true)))))) && true)))))) (K (vb false) [.cells U (yl m_Lv.C ++ [.row 3, .row 4]), .dead, .dead, .row 6 m_Bv false, .row 0 m_Wv false]) (br (decide (y2 ≥ 0)) (So (y0q y2 m_Lv m_Bv m_Wv) (fun (y9 : List (List Int) × List Int) => (K (vb true) [.cells U (yl m_Lv.C ++ [.row 3, .row 4]), .dead, .dead, .row 6 (y9.1 : List (List Int)) false, .row 0 (y9.2 : List Int) false]))) (K (vb true) [.cells U (yl m_Lv.C ++ [.row 3, .row 4]), .dead, .dead, .row 6 m_Bv false, .row 0 m_Wv false])))) (br (c.Kind == 6) (br (decide (y2 < 0)) (K (vb (rv.Err == 7 && (rv.Addr == 0 && (rv.Size == 0 && (rv.Value == 0 && (rv.Stats.Blocks == 0 && (rv.Stats.Asked == 0 && (rv.Stats.Words == 0 && (rv.Stats.Kept == 0 && (rv.Stats.Open == 0 && (rv.Stats.Mapped == 0 && (rv.Stats.Used == 0 && true)))))) && true)))))) [.cells U (yl m_Lv.C ++ [.row 3, .row 4]), .dead, .dead, .row 6 m_Bv false, .row 0 m_Wv false]) (Req (inR y2 m_Bv.length) (Req (inR (offs y2 0) m_Bv.length) (K (vb (rv.Err == (0 : Int) && (rv.Addr == (0 : Int) && (rv.Size == List.getD (m_Bv.getD (Int.toNat (offs y2 (0 : Nat))) (List.replicate (3 : Nat) (0 : Int))) (2 : Nat) (0 : Int) && (rv.Value == (0 : Int) && (rv.Stats.Blocks == (0 : Int) && (rv.Stats.Asked == (0 : Int) && (rv.Stats.Words == (0 : Int) && (rv.Stats.Kept == (0 : Int) && (rv.Stats.Open == (0 : Int) && (rv.Stats.Mapped == (0 : Int) && (rv.Stats.Used == (0 : Int) && true)))))) && true)))))) [.cells U (yl m_Lv.C ++ [.row 3, .row 4]), .dead, .dead, .row 6 m_Bv false, .row 0 m_Wv false])))) (br (c.Kind == 7) (K (vb (rv.Err == 0 && (rv.Addr == 0 && (rv.Size == 0 && (rv.Value == 0 && (rv.Stats.Blocks == 0 && (rv.Stats.Asked == 0 && (rv.Stats.Words == 0 && (rv.Stats.Kept == 0 && (rv.Stats.Open == 0 && (rv.Stats.Mapped == 0 && (rv.Stats.Used == 0 && true)))))) && true)))))) [.cells U (yl m_Lv.C ++ [.row 3, .row 4]), .dead, .dead, .row 6 m_Bv false, .row 0 m_Wv false]) (br (c.Kind == 9) (K (vb (rv.Err == 0 && (rv.Addr == 0 && (rv.Size == 0 && (rv.Value == 0 && (rv.Stats.Blocks == 0 && (rv.Stats.Asked == 0 && (rv.Stats.Words == 0 && (rv.Stats.Kept == 0 && (rv.Stats.Open == 0 && (rv.Stats.Mapped == 0 && (rv.Stats.Used == 0 && true)))))) && true)))))) [.cells U (yl m_Lv.C ++ [.row 3, .row 4]), .dead, .dead, .row 6 m_Bv false, .row 0 m_Wv false]) (br (c.Kind == 8) (br (rv.Err == 0 && (rv.Addr == 0 && (rv.Size == rv.Size && (rv.Value == 0 && (rv.Stats.Blocks == 0 && (rv.Stats.Asked == 0 && (rv.Stats.Words == 0 && (rv.Stats.Kept == 0 && (rv.Stats.Open == 0 && (rv.Stats.Mapped == 0 && (rv.Stats.Used == 0 && true)))))) && true))))) (br (decide (rv.Size ≥ 0)) (K (vb (decide (rv.Size ≤ m_Lv.C.Pages))) [.cells U (yl m_Lv.C ++ [.row 3, .row 4]), .dead, .dead, .row 6 m_Bv false, .row 0 m_Wv false]) (K (vb false) [.cells U (yl m_Lv.C ++ [.row 3, .row 4]), .dead, .dead, .row 6 m_Bv false, .row 0 m_Wv false])) (K (vb false) [.cells U (yl m_Lv.C ++ [.row 3, .row 4]), .dead, .dead, .row 6 m_Bv false, .row 0 m_Wv false])) (br (c.Kind == 10) (So (y26 m_Lv m_Bv m_Wv) (fun (y10 : Int × Int × Int) => (br (rv.Err == 0 && (rv.Addr == 0 && (rv.Size == 0 && (rv.Value == 0 && (rv.Stats.Blocks == rv.Stats.Blocks && (rv.Stats.Asked == rv.Stats.Asked && (rv.Stats.Words == rv.Stats.Words && (rv.Stats.Kept == rv.Stats.Kept && (rv.Stats.Open == rv.Stats.Open && (rv.Stats.Mapped == rv.Stats.Mapped && (rv.Stats.Used == rv.Stats.Used && true)))))) && true))))) (br (decide (rv.Stats.Mapped ≤ m_Lv.C.Pages)) (So (y1x rv.Stats) (fun (y11 : Bool) => (br y11 (br (rv.Stats.Blocks == y10.1) (br (rv.Stats.Asked == y10.2.1) (K (vb (rv.Stats.Words == y10.2.2)) [.cells U (yl m_Lv.C ++ [.row 3, .row 4]), .dead, .dead, .row 6 m_Bv false, .row 0 m_Wv false]) (K (vb false) [.cells U (yl m_Lv.C ++ [.row 3, .row 4]), .dead, .dead, .row 6 m_Bv false, .row 0 m_Wv false])) (K (vb false) [.cells U (yl m_Lv.C ++ [.row 3, .row 4]), .dead, .dead, .row 6 m_Bv false, .row 0 m_Wv false])) (K (vb false) [.cells U (yl m_Lv.C ++ [.row 3, .row 4]), .dead, .dead, .row 6 m_Bv false, .row 0 m_Wv false])))) (K (vb false) [.cells U (yl m_Lv.C ++ [.row 3, .row 4]), .dead, .dead, .row 6 m_Bv false, .row 0 m_Wv false])) (K (vb false) [.cells U (yl m_Lv.C ++ [.row 3, .row 4]), .dead, .dead, .row 6 m_Bv false, .row 0 m_Wv false])))) (So (y0t c.Addr m_Lv m_Bv m_Wv) (fun (y12 : Int) => (br (decide (y12 < 0)) (K (vb (rv.Err == 7 && (rv.Addr == 0 && (rv.Size == 0 && (rv.Value == 0 && (rv.Stats.Blocks == 0 && (rv.Stats.Asked == 0 && (rv.Stats.Words == 0 && (rv.Stats.Kept == 0 && (rv.Stats.Open == 0 && (rv.Stats.Mapped == 0 && (rv.Stats.Used == 0 && true)))))) && true)))))) [.cells U (yl m_Lv.C ++ [.row 3, .row 4]), .dead, .dead, .row 6 m_Bv false, .row 0 m_Wv false]) (So (yj m_Lv) (fun (y13 : Int) => (br (c.Kind == 11) (Req (inR (IntKind.i64.wrap (c.Addr - y13)) m_Wv.length) (Req (inR (offs (IntKind.i64.wrap (c.Addr - y13)) 0) m_Wv.length) (K (vb (rv.Err == 0 && (rv.Addr == 0 && (rv.Size == 0 && (rv.Value == m_Wv.getD (Int.toNat (offs (IntKind.i64.wrap (c.Addr - y13)) 0)) 0 && (rv.Stats.Blocks == 0 && (rv.Stats.Asked == 0 && (rv.Stats.Words == 0 && (rv.Stats.Kept == 0 && (rv.Stats.Open == 0 && (rv.Stats.Mapped == 0 && (rv.Stats.Used == 0 && true)))))) && true)))))) [.cells U (yl m_Lv.C ++ [.row 3, .row 4]), .dead, .dead, .row 6 m_Bv false, .row 0 m_Wv false]))) (br (!(rv.Err == 0 && (rv.Addr == 0 && (rv.Size == 0 && (rv.Value == 0 && (rv.Stats.Blocks == 0 && (rv.Stats.Asked == 0 && (rv.Stats.Words == 0 && (rv.Stats.Kept == 0 && (rv.Stats.Open == 0 && (rv.Stats.Mapped == 0 && (rv.Stats.Used == 0 && true)))))) && true)))))) (K (vb false) [.cells U (yl m_Lv.C ++ [.row 3, .row 4]), .dead, .dead, .row 6 m_Bv false, .row 0 m_Wv false]) (Req (inR (IntKind.i64.wrap (c.Addr - y13)) m_Wv.length) (Req (inR (offs (IntKind.i64.wrap (c.Addr - y13)) 0) m_Wv.length) (K (vb true) [.cells U (yl m_Lv.C ++ [.row 3, .row 4]), .dead, .dead, .row 6 m_Bv false, .row 0 (List.set m_Wv (Int.toNat (offs (IntKind.i64.wrap (c.Addr - y13)) 0)) c.Value : List Int) false])))))))))))))))))))))))))) := by kernel_rfl
def y0f (c : yc) : Option (T_assartref02_Layout × (List (List Int)) × (List Int)) :=
  (bif (decide (0 ≤ IntKind.i64.wrap (32 * c.Pages) ∧ IntKind.i64.wrap (32 * c.Pages) ≤ IntKind.i64.wrap (32 * c.Pages) ∧ IntKind.i64.wrap (32 * c.Pages) ≤ 1048576)) then some ((T_assartref02_Layout.mk c), ([]), (List.replicate (Int.toNat (IntKind.i64.wrap ((32 : Int) * c.Pages))) (0 : Int))) else none)
def y0a (n align : Int) : Option Int :=
  (bif (decide (n > 1048576)) then some 0 else ((y28 n align).bind fun y0 => some y0.1))
def y3q (a : Int) (m_Bv : List (List Int)) (iv : Int) : Option (Int ⊕ Int) :=
  (bif (decide (iv < (↑m_Bv.length : Int))) then (bif (inR iv m_Bv.length) then (bif (inR (offs iv 0) m_Bv.length) then (bif (List.getD (m_Bv.getD (Int.toNat (offs iv (0 : Nat))) (List.replicate (3 : Nat) (0 : Int))) (0 : Nat) (0 : Int) == a) then some (.inr iv) else some (.inl (IntKind.i64.wrap (iv + 1)))) else none) else none) else some (.inr (-1)))
def yad (a : Int) (m_Bv : List (List Int)) (s : Int) : Option Int :=
  loopO (fun s => y3q a m_Bv s) s
def y02 (a : Int) (m_Lv : T_assartref02_Layout) (m_Bv : List (List Int)) (m_Wv : List Int) : Option Int :=
  (yad a m_Bv 0)
def y3t (a : Int) (m_Bv : List (List Int)) (iv : Int) : Option (Int ⊕ Int) :=
  (bif (decide (iv < (↑m_Bv.length : Int))) then (bif (inR iv m_Bv.length) then (bif (inR (offs iv 0) m_Bv.length) then (bif (decide (a ≥ List.getD (m_Bv.getD (Int.toNat (offs iv (0 : Nat))) (List.replicate (3 : Nat) (0 : Int))) (0 : Nat) (0 : Int))) then (bif (inR iv m_Bv.length) then (bif (inR (offs iv 0) m_Bv.length) then (bif (inR iv m_Bv.length) then (bif (inR (offs iv 0) m_Bv.length) then (bif (decide (a < IntKind.i64.wrap (List.getD (m_Bv.getD (Int.toNat (offs iv (0 : Nat))) (List.replicate (3 : Nat) (0 : Int))) (0 : Nat) (0 : Int) + List.getD (m_Bv.getD (Int.toNat (offs iv (0 : Nat))) (List.replicate (3 : Nat) (0 : Int))) (2 : Nat) (0 : Int)))) then some (.inr iv) else some (.inl (IntKind.i64.wrap (iv + 1)))) else none) else none) else none) else none) else some (.inl (IntKind.i64.wrap (iv + 1)))) else none) else none) else some (.inr (-1)))
def yc1 (a : Int) (m_Bv : List (List Int)) (s : Int) : Option Int :=
  loopO (fun s => y3t a m_Bv s) s
def y0t (a : Int) (m_Lv : T_assartref02_Layout) (m_Bv : List (List Int)) (m_Wv : List Int) : Option Int :=
  (yc1 a m_Bv 0)
def y0q (iv : Int) (m_Lv : T_assartref02_Layout) (m_Bv : List (List Int)) (m_Wv : List Int) : Option ((List (List Int)) × (List Int)) :=
  (bif (decide (0 ≤ iv ∧ iv ≤ (↑m_Bv.length : Int))) then (bif (decide (0 ≤ IntKind.i64.wrap (iv + 1) ∧ IntKind.i64.wrap (iv + 1) ≤ (↑m_Bv.length : Int))) then (bif (decide (0 + Int.toNat iv ≤ m_Bv.length)) then (bif (decide (0 + List.length (List.take (Int.toNat iv) (List.drop 0 m_Bv)) ≤ 1048576)) then (bif (decide (Int.toNat (IntKind.i64.wrap (iv + 1)) + (m_Bv.length - Int.toNat (IntKind.i64.wrap (iv + 1))) ≤ m_Bv.length)) then (bif (decide (List.length (List.take (Int.toNat iv) (List.drop 0 m_Bv)) + List.length (List.take (m_Bv.length - Int.toNat (IntKind.i64.wrap (iv + 1))) (List.drop (Int.toNat (IntKind.i64.wrap (iv + 1))) m_Bv)) ≤ 1048576)) then some ((List.take (Int.toNat iv) (List.drop 0 m_Bv) ++ List.take (m_Bv.length - Int.toNat (IntKind.i64.wrap (iv + 1))) (List.drop (Int.toNat (IntKind.i64.wrap (iv + 1))) m_Bv)), m_Wv) else none) else none) else none) else none) else none) else none)
def y3b (m_Lv : T_assartref02_Layout) (m_Bv : List (List Int)) (m_Wv : List Int) (a : Int) (w : List Go.Rx.Pr) : Option ((Int × (List Go.Rx.Pr)) ⊕ (List Pr)) :=
  ((y01 m_Lv).bind fun y0 => (bif (decide (a < y0)) then ((y02 a m_Lv m_Bv m_Wv).bind fun y1 => (bif (decide (y1 ≥ 0)) then (bif (inR y1 m_Bv.length) then (bif (inR (offs y1 0) m_Bv.length) then (bif (decide (w.length + 1 ≤ 1048576)) then some (.inl ((IntKind.i64.wrap (a + 1)), (w ++ [Pr.mk a (List.getD (m_Bv.getD (Int.toNat (offs y1 (0 : Nat))) (List.replicate (3 : Nat) (0 : Int))) (1 : Nat) (0 : Int))]))) else none) else none) else none) else some (.inl ((IntKind.i64.wrap (a + 1)), w)))) else some (.inr w)))
def y5u (m_Lv : T_assartref02_Layout) (m_Bv : List (List Int)) (m_Wv : List Int) (s : Int × (List Go.Rx.Pr)) : Option (List Pr) :=
  loopO (fun s => y3b m_Lv m_Bv m_Wv s.1 s.2) s
def y0e (m_Lv : T_assartref02_Layout) (m_Bv : List (List Int)) (m_Wv : List Int) : Option (List Pr) :=
  ((yj m_Lv).bind fun y0 => (y5u m_Lv m_Bv m_Wv (y0, ([]))))
def y3d (rv : T_api_Reply) (m_Lv : T_assartref02_Layout) (m_Bv : List (List Int)) (m_Wv : List Int) (want a : Int) : Option (Int ⊕ Bool) :=
  (bif (decide (a < IntKind.i64.wrap (rv.Addr + want))) then ((y0t a m_Lv m_Bv m_Wv).bind fun y0 => (bif (decide (y0 ≥ 0)) then some (.inr false) else some (.inl (IntKind.i64.wrap (a + 1))))) else some (.inr true))
def y3o (rv : T_api_Reply) (m_Lv : T_assartref02_Layout) (m_Bv : List (List Int)) (m_Wv : List Int) (want s : Int) : Option Bool :=
  loopO (fun s => y3d rv m_Lv m_Bv m_Wv want s) s
def y1a (c : yb) (rv : T_api_Reply) (m_Lv : T_assartref02_Layout) (m_Bv : List (List Int)) (m_Wv : List Int) : Option Bool :=
  (bif (c.Kind == 5) then ((y0a c.Size c.Align).bind fun y0 => (bif (y0 == 0) then some false else (bif (!(rv.Err == 0 && (rv.Addr == rv.Addr && (rv.Size == y0 && (rv.Value == 0 && (rv.Stats.Blocks == 0 && (rv.Stats.Asked == 0 && (rv.Stats.Words == 0 && (rv.Stats.Kept == 0 && (rv.Stats.Open == 0 && (rv.Stats.Mapped == 0 && (rv.Stats.Used == 0 && true)))))) && true)))))) then some false else ((yj m_Lv).bind fun y1 => (bif (decide (rv.Addr < y1)) then some false else ((y01 m_Lv).bind fun y2 => (bif (decide (rv.Addr ≥ y2)) then some false else ((y01 m_Lv).bind fun y3 => (bif (decide (y0 > IntKind.i64.wrap (y3 - rv.Addr))) then some false else (bif (!c.Align == 0) then (bif (Int.tmod rv.Addr c.Align != 0) then some false else (y3o rv m_Lv m_Bv m_Wv y0 rv.Addr)) else none)))))))))) else ((y0a c.Size 1).bind fun y4 => (bif (y4 == 0) then some false else (bif (!(rv.Err == 0 && (rv.Addr == rv.Addr && (rv.Size == y4 && (rv.Value == 0 && (rv.Stats.Blocks == 0 && (rv.Stats.Asked == 0 && (rv.Stats.Words == 0 && (rv.Stats.Kept == 0 && (rv.Stats.Open == 0 && (rv.Stats.Mapped == 0 && (rv.Stats.Used == 0 && true)))))) && true)))))) then some false else ((yj m_Lv).bind fun y5 => (bif (decide (rv.Addr < y5)) then some false else ((y01 m_Lv).bind fun y6 => (bif (decide (rv.Addr ≥ y6)) then some false else ((y01 m_Lv).bind fun y7 => (bif (decide (y4 > IntKind.i64.wrap (y7 - rv.Addr))) then some false else (bif (Int.tmod rv.Addr 1 != 0) then some false else (y3o rv m_Lv m_Bv m_Wv y4 rv.Addr))))))))))))
def y34 (c : yb) (rv : T_api_Reply) (m_Bv : List (List Int)) (fromv iv : Int) (m_Wvv : List Int) : Option ((Int × (List Int)) ⊕ (Bool × (List (List Int)) × (List Int))) :=
  (bif (decide (iv < rv.Size)) then (bif (c.Kind == 3) then (bif (inR (IntKind.i64.wrap (fromv + iv)) m_Wvv.length) then (bif (inR (offs (IntKind.i64.wrap (fromv + iv)) 0) m_Wvv.length) then some (.inl ((IntKind.i64.wrap (iv + 1)), (List.set m_Wvv (Int.toNat (offs (IntKind.i64.wrap (fromv + iv)) 0)) 0))) else none) else none) else (bif (decide (0 + m_Bv.length ≤ 1048576)) then (bif (decide (m_Bv.length + 1 ≤ 1048576)) then some (.inr (true, (m_Bv ++ [[rv.Addr, c.Size, rv.Size]]), m_Wvv)) else none) else none)) else (bif (decide (0 + m_Bv.length ≤ 1048576)) then (bif (decide (m_Bv.length + 1 ≤ 1048576)) then some (.inr (true, (m_Bv ++ [[rv.Addr, c.Size, rv.Size]]), m_Wvv)) else none) else none))
def y41 (c : yb) (rv : T_api_Reply) (m_Bv : List (List Int)) (fromv : Int) (s : Int × (List Int)) : Option (Bool × (List (List Int)) × (List Int)) :=
  loopO (fun s => y34 c rv m_Bv fromv s.1 s.2) s
def y0p (c : yb) (rv : T_api_Reply) (m_Lv : T_assartref02_Layout) (m_Bv : List (List Int)) (m_Wv : List Int) : Option (Bool × (List (List Int)) × (List Int)) :=
  (bif (rv.Err == 6 && (rv.Addr == 0 && (rv.Size == 0 && (rv.Value == 0 && (rv.Stats.Blocks == 0 && (rv.Stats.Asked == 0 && (rv.Stats.Words == 0 && (rv.Stats.Kept == 0 && (rv.Stats.Open == 0 && (rv.Stats.Mapped == 0 && (rv.Stats.Used == 0 && true)))))) && true))))) then some (true, m_Bv, m_Wv) else ((y1a c rv m_Lv m_Bv m_Wv).bind fun y0 => (bif (!y0) then some (false, m_Bv, m_Wv) else ((yj m_Lv).bind fun y1 => (y41 c rv m_Bv (IntKind.i64.wrap (rv.Addr - y1)) (0, m_Wv))))))
def y3f (c : yb) (m_Lv : T_assartref02_Layout) (to fromv : Int) (c2 : y2i) (w : List (List Int)) (k : Int) (w2 : List Int) : Option ((Int × (List Int)) ⊕ (Bool × (List (List Int)) × (List Int))) :=
  (bif (decide (k < c2.Asked)) then (bif (decide (k < c.Size)) then (bif (inR (IntKind.i64.wrap (fromv + k)) w2.length) then (bif (inR (offs (IntKind.i64.wrap (fromv + k)) 0) w2.length) then (bif (inR (IntKind.i64.wrap (to + k)) w2.length) then (bif (inR (offs (IntKind.i64.wrap (to + k)) 0) w2.length) then some (.inl ((IntKind.i64.wrap (k + 1)), (List.set w2 (Int.toNat (offs (IntKind.i64.wrap (to + k)) 0)) (w2.getD (Int.toNat (offs (IntKind.i64.wrap (fromv + k)) 0)) 0)))) else none) else none) else none) else none) else ((y02 c2.A m_Lv w w2).bind fun y0 => ((y0q y0 m_Lv w w2).bind fun y1 => some (.inr (true, y1.1, y1.2))))) else ((y02 c2.A m_Lv w w2).bind fun y2 => ((y0q y2 m_Lv w w2).bind fun y3 => some (.inr (true, y3.1, y3.2)))))
def y47 (c : yb) (m_Lv : T_assartref02_Layout) (to fromv : Int) (c2 : y2i) (w : List (List Int)) (s : Int × (List Int)) : Option (Bool × (List (List Int)) × (List Int)) :=
  loopO (fun s => y3f c m_Lv to fromv c2 w s.1 s.2) s
def y2k (c : yb) (rv : T_api_Reply) (iv : Int) (m_Lv : T_assartref02_Layout) (m_Bv : List (List Int)) (m_Wv : List Int) : Option (Bool × (List (List Int)) × (List Int)) :=
  (bif (inR iv m_Bv.length) then (bif (inR (offs iv 0) m_Bv.length) then ((y0a c.Size 1).bind fun y0 => (bif (y0 == List.getD (m_Bv.getD (Int.toNat (offs iv (0 : Nat))) (List.replicate (3 : Nat) (0 : Int))) (2 : Nat) (0 : Int)) then (bif (!(rv.Err == (0 : Int) && (rv.Addr == List.getD (m_Bv.getD (Int.toNat (offs iv (0 : Nat))) (List.replicate (3 : Nat) (0 : Int))) (0 : Nat) (0 : Int) && (rv.Size == List.getD (m_Bv.getD (Int.toNat (offs iv (0 : Nat))) (List.replicate (3 : Nat) (0 : Int))) (2 : Nat) (0 : Int) && (rv.Value == (0 : Int) && (rv.Stats.Blocks == (0 : Int) && (rv.Stats.Asked == (0 : Int) && (rv.Stats.Words == (0 : Int) && (rv.Stats.Kept == (0 : Int) && (rv.Stats.Open == (0 : Int) && (rv.Stats.Mapped == (0 : Int) && (rv.Stats.Used == (0 : Int) && true)))))) && true)))))) then some (false, m_Bv, m_Wv) else ((y0q iv m_Lv m_Bv m_Wv).bind fun y1 => (bif (decide (y1.1.length + 1 ≤ 1048576)) then some (true, (y1.1 ++ [[List.getD (m_Bv.getD (Int.toNat (offs iv (0 : Nat))) (List.replicate (3 : Nat) (0 : Int))) (0 : Nat) (0 : Int), c.Size, List.getD (m_Bv.getD (Int.toNat (offs iv (0 : Nat))) (List.replicate (3 : Nat) (0 : Int))) (2 : Nat) (0 : Int)]]), y1.2) else none))) else ((y0p c rv m_Lv m_Bv m_Wv).bind fun y2 => (bif (!y2.1) then some (false, y2.2.1, y2.2.2) else (bif (rv.Err == 0) then ((yj m_Lv).bind fun y3 => ((yj m_Lv).bind fun y4 => (y47 c m_Lv (IntKind.i64.wrap (rv.Addr - y3)) (IntKind.i64.wrap (List.getD (m_Bv.getD (Int.toNat (offs iv (0 : Nat))) (List.replicate (3 : Nat) (0 : Int))) (0 : Nat) (0 : Int) - y4)) (y2i.mk (List.getD (m_Bv.getD (Int.toNat (offs iv (0 : Nat))) (List.replicate (3 : Nat) (0 : Int))) (0 : Nat) (0 : Int)) (List.getD (m_Bv.getD (Int.toNat (offs iv (0 : Nat))) (List.replicate (3 : Nat) (0 : Int))) (1 : Nat) (0 : Int)) (List.getD (m_Bv.getD (Int.toNat (offs iv (0 : Nat))) (List.replicate (3 : Nat) (0 : Int))) (2 : Nat) (0 : Int))) y2.2.1 (0, y2.2.2)))) else some (true, y2.2.1, y2.2.2)))))) else none) else none)
def y38 (m_Bv : List (List Int)) (asked words iv : Int) : Option ((Int × Int × Int) ⊕ (Int × Int × Int)) :=
  (bif (decide (iv < (↑m_Bv.length : Int))) then (bif (inR iv m_Bv.length) then (bif (inR (offs iv 0) m_Bv.length) then (bif (inR iv m_Bv.length) then (bif (inR (offs iv 0) m_Bv.length) then some (.inl ((IntKind.i64.wrap (asked + List.getD (m_Bv.getD (Int.toNat (offs iv (0 : Nat))) (List.replicate (3 : Nat) (0 : Int))) (1 : Nat) (0 : Int))), (IntKind.i64.wrap (words + List.getD (m_Bv.getD (Int.toNat (offs iv (0 : Nat))) (List.replicate (3 : Nat) (0 : Int))) (2 : Nat) (0 : Int))), (IntKind.i64.wrap (iv + 1)))) else none) else none) else none) else none) else some (.inr ((↑m_Bv.length : Int), asked, words)))
def y7j (m_Bv : List (List Int)) (s : Int × Int × Int) : Option (Int × Int × Int) :=
  loopO (fun s => y38 m_Bv s.1 s.2.1 s.2.2) s
def y26 (m_Lv : T_assartref02_Layout) (m_Bv : List (List Int)) (m_Wv : List Int) : Option (Int × Int × Int) :=
  (y7j m_Bv (0, 0, 0))
def y0d (c : yb) (rv : T_api_Reply) (m_Lv : T_assartref02_Layout) (m_Bv : List (List Int)) (m_Wv : List Int) : Option (Bool × (List (List Int)) × (List Int)) :=
  (bif (rv.Err == 8 && (rv.Addr == 0 && (rv.Size == 0 && (rv.Value == 0 && (rv.Stats.Blocks == 0 && (rv.Stats.Asked == 0 && (rv.Stats.Words == 0 && (rv.Stats.Kept == 0 && (rv.Stats.Open == 0 && (rv.Stats.Mapped == 0 && (rv.Stats.Used == 0 && true)))))) && true))))) then some (true, m_Bv, m_Wv) else ((y1s c).bind fun y0 => (bif (y0 != 0) then ((y1s c).bind fun y1 => some ((rv.Err == y1 && (rv.Addr == 0 && (rv.Size == 0 && (rv.Value == 0 && (rv.Stats.Blocks == 0 && (rv.Stats.Asked == 0 && (rv.Stats.Words == 0 && (rv.Stats.Kept == 0 && (rv.Stats.Open == 0 && (rv.Stats.Mapped == 0 && (rv.Stats.Used == 0 && true)))))) && true))))), m_Bv, m_Wv)) else ((y02 c.Addr m_Lv m_Bv m_Wv).bind fun y2 => (bif (c.Kind == 1) then ((y0p c rv m_Lv m_Bv m_Wv).bind fun y3 => some (y3.1, y3.2.1, y3.2.2)) else (bif (c.Kind == 3) then ((y0p c rv m_Lv m_Bv m_Wv).bind fun y4 => some (y4.1, y4.2.1, y4.2.2)) else (bif (c.Kind == 5) then ((y0p c rv m_Lv m_Bv m_Wv).bind fun y5 => some (y5.1, y5.2.1, y5.2.2)) else (bif (c.Kind == 4) then (bif (c.Addr == 0) then ((y0p c rv m_Lv m_Bv m_Wv).bind fun y6 => some (y6.1, y6.2.1, y6.2.2)) else (bif (decide (y2 < 0)) then some ((rv.Err == 7 && (rv.Addr == 0 && (rv.Size == 0 && (rv.Value == 0 && (rv.Stats.Blocks == 0 && (rv.Stats.Asked == 0 && (rv.Stats.Words == 0 && (rv.Stats.Kept == 0 && (rv.Stats.Open == 0 && (rv.Stats.Mapped == 0 && (rv.Stats.Used == 0 && true)))))) && true))))), m_Bv, m_Wv) else ((y2k c rv y2 m_Lv m_Bv m_Wv).bind fun y7 => some (y7.1, y7.2.1, y7.2.2)))) else (bif (c.Kind == 2) then (bif (c.Addr != 0) then (bif (decide (y2 < 0)) then some ((rv.Err == 7 && (rv.Addr == 0 && (rv.Size == 0 && (rv.Value == 0 && (rv.Stats.Blocks == 0 && (rv.Stats.Asked == 0 && (rv.Stats.Words == 0 && (rv.Stats.Kept == 0 && (rv.Stats.Open == 0 && (rv.Stats.Mapped == 0 && (rv.Stats.Used == 0 && true)))))) && true))))), m_Bv, m_Wv) else (bif (!(rv.Err == 0 && (rv.Addr == 0 && (rv.Size == 0 && (rv.Value == 0 && (rv.Stats.Blocks == 0 && (rv.Stats.Asked == 0 && (rv.Stats.Words == 0 && (rv.Stats.Kept == 0 && (rv.Stats.Open == 0 && (rv.Stats.Mapped == 0 && (rv.Stats.Used == 0 && true)))))) && true)))))) then some (false, m_Bv, m_Wv) else (bif (decide (y2 ≥ 0)) then ((y0q y2 m_Lv m_Bv m_Wv).bind fun y8 => some (true, y8.1, y8.2)) else some (true, m_Bv, m_Wv)))) else (bif (!(rv.Err == 0 && (rv.Addr == 0 && (rv.Size == 0 && (rv.Value == 0 && (rv.Stats.Blocks == 0 && (rv.Stats.Asked == 0 && (rv.Stats.Words == 0 && (rv.Stats.Kept == 0 && (rv.Stats.Open == 0 && (rv.Stats.Mapped == 0 && (rv.Stats.Used == 0 && true)))))) && true)))))) then some (false, m_Bv, m_Wv) else (bif (decide (y2 ≥ 0)) then ((y0q y2 m_Lv m_Bv m_Wv).bind fun y9 => some (true, y9.1, y9.2)) else some (true, m_Bv, m_Wv)))) else (bif (c.Kind == 6) then (bif (decide (y2 < 0)) then some ((rv.Err == 7 && (rv.Addr == 0 && (rv.Size == 0 && (rv.Value == 0 && (rv.Stats.Blocks == 0 && (rv.Stats.Asked == 0 && (rv.Stats.Words == 0 && (rv.Stats.Kept == 0 && (rv.Stats.Open == 0 && (rv.Stats.Mapped == 0 && (rv.Stats.Used == 0 && true)))))) && true))))), m_Bv, m_Wv) else (bif (inR y2 m_Bv.length) then (bif (inR (offs y2 0) m_Bv.length) then some ((rv.Err == (0 : Int) && (rv.Addr == (0 : Int) && (rv.Size == List.getD (m_Bv.getD (Int.toNat (offs y2 (0 : Nat))) (List.replicate (3 : Nat) (0 : Int))) (2 : Nat) (0 : Int) && (rv.Value == (0 : Int) && (rv.Stats.Blocks == (0 : Int) && (rv.Stats.Asked == (0 : Int) && (rv.Stats.Words == (0 : Int) && (rv.Stats.Kept == (0 : Int) && (rv.Stats.Open == (0 : Int) && (rv.Stats.Mapped == (0 : Int) && (rv.Stats.Used == (0 : Int) && true)))))) && true))))), m_Bv, m_Wv) else none) else none)) else (bif (c.Kind == 7) then some ((rv.Err == 0 && (rv.Addr == 0 && (rv.Size == 0 && (rv.Value == 0 && (rv.Stats.Blocks == 0 && (rv.Stats.Asked == 0 && (rv.Stats.Words == 0 && (rv.Stats.Kept == 0 && (rv.Stats.Open == 0 && (rv.Stats.Mapped == 0 && (rv.Stats.Used == 0 && true)))))) && true))))), m_Bv, m_Wv) else (bif (c.Kind == 9) then some ((rv.Err == 0 && (rv.Addr == 0 && (rv.Size == 0 && (rv.Value == 0 && (rv.Stats.Blocks == 0 && (rv.Stats.Asked == 0 && (rv.Stats.Words == 0 && (rv.Stats.Kept == 0 && (rv.Stats.Open == 0 && (rv.Stats.Mapped == 0 && (rv.Stats.Used == 0 && true)))))) && true))))), m_Bv, m_Wv) else (bif (c.Kind == 8) then (bif (rv.Err == 0 && (rv.Addr == 0 && (rv.Size == rv.Size && (rv.Value == 0 && (rv.Stats.Blocks == 0 && (rv.Stats.Asked == 0 && (rv.Stats.Words == 0 && (rv.Stats.Kept == 0 && (rv.Stats.Open == 0 && (rv.Stats.Mapped == 0 && (rv.Stats.Used == 0 && true)))))) && true))))) then (bif (decide (rv.Size ≥ 0)) then some ((decide (rv.Size ≤ m_Lv.C.Pages)), m_Bv, m_Wv) else some (false, m_Bv, m_Wv)) else some (false, m_Bv, m_Wv)) else (bif (c.Kind == 10) then ((y26 m_Lv m_Bv m_Wv).bind fun y10 => (bif (rv.Err == 0 && (rv.Addr == 0 && (rv.Size == 0 && (rv.Value == 0 && (rv.Stats.Blocks == rv.Stats.Blocks && (rv.Stats.Asked == rv.Stats.Asked && (rv.Stats.Words == rv.Stats.Words && (rv.Stats.Kept == rv.Stats.Kept && (rv.Stats.Open == rv.Stats.Open && (rv.Stats.Mapped == rv.Stats.Mapped && (rv.Stats.Used == rv.Stats.Used && true)))))) && true))))) then (bif (decide (rv.Stats.Mapped ≤ m_Lv.C.Pages)) then ((y1x rv.Stats).bind fun y11 => (bif y11 then (bif (rv.Stats.Blocks == y10.1) then (bif (rv.Stats.Asked == y10.2.1) then some ((rv.Stats.Words == y10.2.2), m_Bv, m_Wv) else some (false, m_Bv, m_Wv)) else some (false, m_Bv, m_Wv)) else some (false, m_Bv, m_Wv))) else some (false, m_Bv, m_Wv)) else some (false, m_Bv, m_Wv))) else ((y0t c.Addr m_Lv m_Bv m_Wv).bind fun y12 => (bif (decide (y12 < 0)) then some ((rv.Err == 7 && (rv.Addr == 0 && (rv.Size == 0 && (rv.Value == 0 && (rv.Stats.Blocks == 0 && (rv.Stats.Asked == 0 && (rv.Stats.Words == 0 && (rv.Stats.Kept == 0 && (rv.Stats.Open == 0 && (rv.Stats.Mapped == 0 && (rv.Stats.Used == 0 && true)))))) && true))))), m_Bv, m_Wv) else ((yj m_Lv).bind fun y13 => (bif (c.Kind == 11) then (bif (inR (IntKind.i64.wrap (c.Addr - y13)) m_Wv.length) then (bif (inR (offs (IntKind.i64.wrap (c.Addr - y13)) 0) m_Wv.length) then some ((rv.Err == 0 && (rv.Addr == 0 && (rv.Size == 0 && (rv.Value == m_Wv.getD (Int.toNat (offs (IntKind.i64.wrap (c.Addr - y13)) 0)) 0 && (rv.Stats.Blocks == 0 && (rv.Stats.Asked == 0 && (rv.Stats.Words == 0 && (rv.Stats.Kept == 0 && (rv.Stats.Open == 0 && (rv.Stats.Mapped == 0 && (rv.Stats.Used == 0 && true)))))) && true))))), m_Bv, m_Wv) else none) else none) else (bif (!(rv.Err == 0 && (rv.Addr == 0 && (rv.Size == 0 && (rv.Value == 0 && (rv.Stats.Blocks == 0 && (rv.Stats.Asked == 0 && (rv.Stats.Words == 0 && (rv.Stats.Kept == 0 && (rv.Stats.Open == 0 && (rv.Stats.Mapped == 0 && (rv.Stats.Used == 0 && true)))))) && true)))))) then some (false, m_Bv, m_Wv) else (bif (inR (IntKind.i64.wrap (c.Addr - y13)) m_Wv.length) then (bif (inR (offs (IntKind.i64.wrap (c.Addr - y13)) 0) m_Wv.length) then some (true, m_Bv, (List.set m_Wv (Int.toNat (offs (IntKind.i64.wrap (c.Addr - y13)) 0)) c.Value)) else none) else none))))))))))))))))))))
attribute [local irreducible] Loop ex exF contK roundK retK at_ bodyOf mkEnv exFW retW
theorem ydp : SpecOK Try.prog elTT 11 (y8w y0f) := by
  refine spec_of_exFW (cfg := y90) (yo rfl rfl rfl) yp (pre := []) (wk := wk_ref20_New) (fn := Try.f11) (by kernel_rfl) (by kernel_rfl) (by kernel_rfl) ?_
  intro args H K h
  change y7y y0f args H K at h
  unfold y7y at h
  repeat first | (obtain ⟨_, h⟩ := h) | replace h := Des.el h
  subst_vars
  refine Eq.mpr (ydt _ K) ?_
  unfold y0f at h
  revert h
  exact req_So (fun h => h)
theorem yb5 : SpecOK Try.prog elTT 85 (y85 y0a) := by
  refine spec_of_exF (cfg := (y9i y28)) (yo rfl rfl rfl) (yi yg7 yp) (fn := Try.f85) (by kernel_rfl) (by kernel_rfl) (by kernel_rfl) ?_
  intro args H K h
  change y5y y0a args H K at h
  unfold y5y at h
  repeat first | (obtain ⟨_, h⟩ := h) | replace h := Des.el h
  subst_vars
  refine Eq.mpr (yfq y28 _ _ K) ?_
  unfold y0a at h
  revert h
  exact br_So (fun h => h) (bind_So fun y0 => fun h => h)
theorem lpok_ref20_Model_at_L1 (a : Int) (m_Lv : T_assartref02_Layout) (m_Bv : List (List Int)) (m_Wv : List Int) (iv : Int) (K : V → Heap → Prop) : So (yad a m_Bv iv) (fun (x : Int) => K (vi x) [.rcells (y0k m_Lv ++ [.row 1, .row 2]), .row 6 m_Bv true, .row 0 m_Wv true]) → Loop y2y (⟨26, 3⟩ : Cx) (at_ (bodyOf Try.f44) [1, 0, 1, 0, 0]) (mkEnv [(0, .ptr 0 0), (1, vi a), (5, vi iv)]) [.rcells (yl m_Lv.C ++ [.row 1, .row 2]), .row 6 m_Bv true, .row 0 m_Wv true] (contK y2y (⟨26, 3⟩ : Cx) (bodyOf Try.f44) [1, 0, 1, 0] (retK y2y Try.f44 3 K)) := by
  refine loopK_So (fun (s_ : Int) => (mkEnv [(0, .ptr 0 0), (1, vi a), (5, vi s_)])) (fun (s_ : Int) => [.rcells (yl m_Lv.C ++ [.row 1, .row 2]), .row 6 m_Bv true, .row 0 m_Wv true]) (fun (x : Int) => K (vi x) [.rcells (y0k m_Lv ++ [.row 1, .row 2]), .row 6 m_Bv true, .row 0 m_Wv true]) ?_ iv
  intro s_ J1 h
  clear iv
  revert h; revert s_; intro iv h
  refine Eq.mpr (yfv a m_Lv m_Bv m_Wv iv K J1) ?_
  have h : So (y3q a m_Bv iv) _ := h
  unfold y3q at h
  revert h
  exact br_So (req_So (req_So (br_So (fun h => h) (fun h => h)))) (fun h => h)
theorem y80 : SpecOK Try.prog elTT 44 (y4c y02) := by
  refine spec_of_exF (cfg := y2y) (yo rfl rfl rfl) yp (fn := Try.f44) (by kernel_rfl) (by kernel_rfl) (by kernel_rfl) ?_
  intro args H K h
  change y7c y02 args H K at h
  unfold y7c at h
  repeat first | (obtain ⟨_, h⟩ := h) | replace h := Des.el h
  subst_vars
  refine Eq.mpr (yfd _ _ _ _ K) ?_
  unfold y02 at h
  revert h
  exact lpok_ref20_Model_at_L1 _ _ _ _ _ K
theorem lpok_ref20_Model_of_L1 (a : Int) (m_Lv : T_assartref02_Layout) (m_Bv : List (List Int)) (m_Wv : List Int) (iv : Int) (K : V → Heap → Prop) : So (yc1 a m_Bv iv) (fun (x : Int) => K (vi x) [.rcells (y0k m_Lv ++ [.row 1, .row 2]), .row 6 m_Bv true, .row 0 m_Wv true]) → Loop y2x (⟨47, 3⟩ : Cx) (at_ (bodyOf Try.f50) [1, 0, 1, 0, 0]) (mkEnv [(0, .ptr 0 0), (1, vi a), (5, vi iv)]) [.rcells (yl m_Lv.C ++ [.row 1, .row 2]), .row 6 m_Bv true, .row 0 m_Wv true] (contK y2x (⟨47, 3⟩ : Cx) (bodyOf Try.f50) [1, 0, 1, 0] (retK y2x Try.f50 3 K)) := by
  refine loopK_So (fun (s_ : Int) => (mkEnv [(0, .ptr 0 0), (1, vi a), (5, vi s_)])) (fun (s_ : Int) => [.rcells (yl m_Lv.C ++ [.row 1, .row 2]), .row 6 m_Bv true, .row 0 m_Wv true]) (fun (x : Int) => K (vi x) [.rcells (y0k m_Lv ++ [.row 1, .row 2]), .row 6 m_Bv true, .row 0 m_Wv true]) ?_ iv
  intro s_ J1 h
  clear iv
  revert h; revert s_; intro iv h
  refine Eq.mpr (yfr a m_Lv m_Bv m_Wv iv K J1) ?_
  have h : So (y3t a m_Bv iv) _ := h
  unfold y3t at h
  revert h
  exact br_So (req_So (req_So (br_So (req_So (req_So (req_So (req_So (br_So (fun h => h) (fun h => h)))))) (fun h => h)))) (fun h => h)
theorem ybj : SpecOK Try.prog elTT 50 (y78 y0t) := by
  refine spec_of_exF (cfg := y2x) (yo rfl rfl rfl) yp (fn := Try.f50) (by kernel_rfl) (by kernel_rfl) (by kernel_rfl) ?_
  intro args H K h
  change y7s y0t args H K at h
  unfold y7s at h
  repeat first | (obtain ⟨_, h⟩ := h) | replace h := Des.el h
  subst_vars
  refine Eq.mpr (yei _ _ _ _ K) ?_
  unfold y0t at h
  revert h
  exact lpok_ref20_Model_of_L1 _ _ _ _ _ K
theorem y98 : SpecOK Try.prog elTT 47 (y6v y0q) := by
  refine spec_of_exFW (cfg := ybg) (yo rfl rfl rfl) yp (pre := []) (wk := wk_ref20_Model_without) (fn := Try.f47) (by kernel_rfl) (by kernel_rfl) (by kernel_rfl) ?_
  intro args H K h
  change y7e y0q args H K at h
  unfold y7e at h
  repeat first | (obtain ⟨_, h⟩ := h) | replace h := Des.el h
  subst_vars
  refine Eq.mpr (yff _ _ _ _ _ K) ?_
  unfold y0q at h
  revert h
  exact req_So (req_So (req_So (req_So (req_So (req_So (fun h => h))))))
theorem lpok_ref20_Model_Live_L1 (m_Lv : T_assartref02_Layout) (m_Bv : List (List Int)) (m_Wv : List Int) (a : Int) (w : List Go.Rx.Pr) (K : V → Heap → Prop) : So (y5u m_Lv m_Bv m_Wv (a, w)) (fun (x : (List Pr)) => K (.row 3) [.rcells (y0k m_Lv ++ [.row 1, .row 2]), .row 6 m_Bv true, .row 0 m_Wv true, .row 2 x false]) → Loop (y2u yj y01 y02) (⟨39, 3⟩ : Cx) (at_ (bodyOf Try.f19) [1, 1, 0, 1, 0, 0]) (mkEnv [(0, .ptr 0 0), (3, .row 3), (4, vi a)]) [.rcells (yl m_Lv.C ++ [.row 1, .row 2]), .row 6 m_Bv true, .row 0 m_Wv true, .row 2 w false] (contK (y2u yj y01 y02) (⟨39, 3⟩ : Cx) (bodyOf Try.f19) [1, 1, 0, 1, 0] (retK (y2u yj y01 y02) Try.f19 3 K)) := by
  refine loopK_So (fun (s_ : Int × (List Pr)) => (mkEnv [(0, .ptr 0 0), (3, .row 3), (4, vi s_.1)])) (fun (s_ : Int × (List Pr)) => [.rcells (yl m_Lv.C ++ [.row 1, .row 2]), .row 6 m_Bv true, .row 0 m_Wv true, .row 2 (s_.2 : List Pr) false]) (fun (x : (List Pr)) => K (.row 3) [.rcells (y0k m_Lv ++ [.row 1, .row 2]), .row 6 m_Bv true, .row 0 m_Wv true, .row 2 x false]) ?_ (a, w)
  intro s_ J1 h
  clear a
  clear w
  obtain ⟨a, w⟩ := s_
  refine Eq.mpr (yd0 yj y01 y02 m_Lv m_Bv m_Wv a w K J1) ?_
  have h : So (y3b m_Lv m_Bv m_Wv a w) _ := h
  unfold y3b at h
  revert h
  exact bind_So fun y0 => br_So (bind_So fun y1 => br_So (req_So (req_So (req_So (fun h => h)))) (fun h => h)) (fun h => h)
theorem yfo : SpecOK Try.prog elTT 19 (yac y0e) := by
  refine spec_of_exF (cfg := (y2u yj y01 y02)) (yo rfl rfl rfl) (yi y3g (yi yc3 (yi y80 yp))) (fn := Try.f19) (by kernel_rfl) (by kernel_rfl) (by kernel_rfl) ?_
  intro args H K h
  change y7k y0e args H K at h
  unfold y7k at h
  repeat first | (obtain ⟨_, h⟩ := h) | replace h := Des.el h
  subst_vars
  refine Eq.mpr (ycr yj y01 y02 _ _ _ K) ?_
  unfold y0e at h
  revert h
  exact bind_So fun y0 => lpok_ref20_Model_Live_L1 _ _ _ _ _ K
theorem lpok_ref20_Model_fits_L1 (c : yb) (rv : T_api_Reply) (m_Lv : T_assartref02_Layout) (m_Bv : List (List Int)) (m_Wv : List Int) (want a : Int) (K : V → Heap → Prop) : So (y3o rv m_Lv m_Bv m_Wv want a) (fun (x : Bool) => K (vb x) [.rcells (y0k m_Lv ++ [.row 1, .row 2]), .row 6 m_Bv true, .row 0 m_Wv true]) → Loop (y1v y0a yj y01 y0t) (⟨82, 3⟩ : Cx) (at_ (bodyOf Try.f84) [1, 1, 1, 1, 1, 0, 1, 0, 0]) (mkEnv [(0, .ptr 0 0), (5, .ptr 3 0), (8, vi want), (9, vi a)]) [.rcells (yl m_Lv.C ++ [.row 1, .row 2]), .row 6 m_Bv true, .row 0 m_Wv true, .cells 46 (y0l rv)] (contK (y1v y0a yj y01 y0t) (⟨82, 3⟩ : Cx) (bodyOf Try.f84) [1, 1, 1, 1, 1, 0, 1, 0] (retK (y1v y0a yj y01 y0t) Try.f84 3 K)) := by
  refine loopK_So (fun (s_ : Int) => (mkEnv [(0, .ptr 0 0), (5, .ptr 3 0), (8, vi want), (9, vi s_)])) (fun (s_ : Int) => [.rcells (yl m_Lv.C ++ [.row 1, .row 2]), .row 6 m_Bv true, .row 0 m_Wv true, .cells 46 (y0l rv)]) (fun (x : Bool) => K (vb x) [.rcells (y0k m_Lv ++ [.row 1, .row 2]), .row 6 m_Bv true, .row 0 m_Wv true]) ?_ a
  intro s_ J1 h
  clear a
  revert h; revert s_; intro a h
  refine Eq.mpr (ye1 y0a yj y01 y0t c rv m_Lv m_Bv m_Wv want a K J1) ?_
  have h : So (y3d rv m_Lv m_Bv m_Wv want a) _ := h
  unfold y3d at h
  revert h
  exact br_So (bind_So fun y0 => br_So (fun h => h) (fun h => h)) (fun h => h)
theorem yeo : SpecOK Try.prog elTT 84 (ybd y1a) := by
  refine spec_of_exF (cfg := (y1v y0a yj y01 y0t)) (yo rfl rfl rfl) (yi yb5 (yi y3g (yi yc3 (yi ybj yp)))) (fn := Try.f84) (by kernel_rfl) (by kernel_rfl) (by kernel_rfl) ?_
  intro args H K h
  change y6o y1a args H K at h
  unfold y6o at h
  repeat first | (obtain ⟨_, h⟩ := h) | replace h := Des.el h
  subst_vars
  refine Eq.mpr (yf5 y0a yj y01 y0t _ _ _ _ _ K) ?_
  unfold y1a at h
  revert h
  exact br_So (bind_So fun y0 => br_So (fun h => h) (br_So (fun h => h) (bind_So fun y1 => br_So (fun h => h) (bind_So fun y2 => br_So (fun h => h) (bind_So fun y3 => br_So (fun h => h) (req_So (br_So (fun h => h) (lpok_ref20_Model_fits_L1 (by first | assumption | exact default) _ _ _ _ _ _ K)))))))) (bind_So fun y4 => br_So (fun h => h) (br_So (fun h => h) (bind_So fun y5 => br_So (fun h => h) (bind_So fun y6 => br_So (fun h => h) (bind_So fun y7 => br_So (fun h => h) (br_So (fun h => h) (lpok_ref20_Model_fits_L1 (by first | assumption | exact default) _ _ _ _ _ _ K)))))))
theorem lpok_ref20_Model_news_L1 (c : yb) (rv : T_api_Reply) (m_Lv : T_assartref02_Layout) (m_Bv : List (List Int)) (m_Wv : List Int) (U : TypeId) (fromv iv : Int) (m_Wvv : List Int) (K : V → Heap → Prop) : So (y41 c rv m_Bv fromv (iv, m_Wvv)) (fun (x : Bool × (List (List Int)) × (List Int)) => K (vb x.1) [.cells U (y0k m_Lv ++ [.row 3, .row 4]), .dead, .dead, .row 6 x.2.1 false, .row 0 x.2.2 false]) → Loop (y2n y1a yj) (⟨62, 3⟩ : Cx) (at_ (bodyOf Try.f45) [1, 1, 1, 1, 0, 1, 0, 0]) (mkEnv [(0, .ptr 0 0), (4, .ptr 3 0), (5, .ptr 4 0), (7, vi fromv), (8, vi iv)]) [.cells U (yl m_Lv.C ++ [.row 1, .row 2]), .row 6 m_Bv false, .row 0 m_Wvv false, .cells 42 (y0u c), .cells 46 (y0l rv)] (contK (y2n y1a yj) (⟨62, 3⟩ : Cx) (bodyOf Try.f45) [1, 1, 1, 1, 0, 1, 0] (retW (y2n y1a yj) wk_ref20_Model_news Try.f45 3 K)) := by
  refine loopK_So (fun (s_ : Int × (List Int)) => (mkEnv [(0, .ptr 0 0), (4, .ptr 3 0), (5, .ptr 4 0), (7, vi fromv), (8, vi s_.1)])) (fun (s_ : Int × (List Int)) => [.cells U (yl m_Lv.C ++ [.row 1, .row 2]), .row 6 m_Bv false, .row 0 (s_.2 : List Int) false, .cells 42 (y0u c), .cells 46 (y0l rv)]) (fun (x : Bool × (List (List Int)) × (List Int)) => K (vb x.1) [.cells U (y0k m_Lv ++ [.row 3, .row 4]), .dead, .dead, .row 6 x.2.1 false, .row 0 x.2.2 false]) ?_ (iv, m_Wvv)
  intro s_ J1 h
  clear iv
  clear m_Wvv
  obtain ⟨iv, m_Wvv⟩ := s_
  refine Eq.mpr (ych y1a yj c rv m_Lv m_Bv m_Wv U fromv iv m_Wvv K J1) ?_
  have h : So (y34 c rv m_Bv fromv iv m_Wvv) _ := h
  unfold y34 at h
  revert h
  exact br_So (br_So (req_So (req_So (fun h => h))) (alt_So (alt_So (req_So (req_So (fun h => h))) (req_So (req_So (fun h => h)))) (req_So (req_So (fun h => h))))) (alt_So (alt_So (req_So (req_So (fun h => h))) (req_So (req_So (fun h => h)))) (req_So (req_So (fun h => h))))
theorem y8s : SpecOK Try.prog elTT 45 (y7f y0p) := by
  refine spec_of_exFW (cfg := (y2n y1a yj)) (yo rfl rfl rfl) (yi yeo (yi y3g yp)) (pre := []) (wk := wk_ref20_Model_news) (fn := Try.f45) (by kernel_rfl) (by kernel_rfl) (by kernel_rfl) ?_
  intro args H K h
  change y5a y0p args H K at h
  unfold y5a at h
  repeat first | (obtain ⟨_, h⟩ := h) | replace h := Des.el h
  subst_vars
  refine Eq.mpr (yg6 y1a yj _ _ _ _ _ _ K) ?_
  unfold y0p at h
  revert h
  exact br_So (fun h => h) (bind_So fun y0 => br_So (fun h => h) (bind_So fun y1 => lpok_ref20_Model_news_L1 _ _ _ _ (by first | assumption | exact default) _ _ _ _ K))
theorem lpok_ref20_Model_again_L1 (c : yb) (rv : T_api_Reply) (iv : Int) (m_Lv : T_assartref02_Layout) (m_Bv : List (List Int)) (m_Wv : List Int) (U : TypeId) (to fromv k : Int) (c2 : y2i) (w : List (List Int)) (w2 : List Int) (K : V → Heap → Prop) : So (y47 c m_Lv to fromv c2 w (k, w2)) (fun (x : Bool × (List (List Int)) × (List Int)) => K (vb x.1) [.cells U (y0k m_Lv ++ [.row 3, .row 4]), .dead, .dead, .row 6 x.2.1 false, .row 0 x.2.2 false]) → Loop (y2q y0a y0q y0p yj y02) (⟨111, 3⟩ : Cx) (at_ (bodyOf Try.f46) [1, 1, 1, 1, 0, 1, 0, 1, 1, 0, 1, 0, 0]) (mkEnv [(0, .ptr 0 0), (5, .ptr 3 0), (9, .ptr 4 0), (10, vi to), (11, vi fromv), (12, vi k)]) [.cells U (yl m_Lv.C ++ [.row 5, .row 6]), .dead, .dead, .cells 42 (y0u c), .cells 59 (y4h c2), .row 6 w false, .row 0 w2 false] (contK (y2q y0a y0q y0p yj y02) (⟨111, 3⟩ : Cx) (bodyOf Try.f46) [1, 1, 1, 1, 0, 1, 0, 1, 1, 0, 1, 0] (retW (y2q y0a y0q y0p yj y02) wk_ref20_Model_again Try.f46 3 K)) := by
  refine loopK_So (fun (s_ : Int × (List Int)) => (mkEnv [(0, .ptr 0 0), (5, .ptr 3 0), (9, .ptr 4 0), (10, vi to), (11, vi fromv), (12, vi s_.1)])) (fun (s_ : Int × (List Int)) => [.cells U (yl m_Lv.C ++ [.row 5, .row 6]), .dead, .dead, .cells 42 (y0u c), .cells 59 (y4h c2), .row 6 w false, .row 0 (s_.2 : List Int) false]) (fun (x : Bool × (List (List Int)) × (List Int)) => K (vb x.1) [.cells U (y0k m_Lv ++ [.row 3, .row 4]), .dead, .dead, .row 6 x.2.1 false, .row 0 x.2.2 false]) ?_ (k, w2)
  intro s_ J1 h
  clear k
  clear w2
  obtain ⟨k, w2⟩ := s_
  refine Eq.mpr (yfk y0a y0q y0p yj y02 c rv iv m_Lv m_Bv m_Wv U to fromv k c2 w w2 K J1) ?_
  have h : So (y3f c m_Lv to fromv c2 w k w2) _ := h
  unfold y3f at h
  revert h
  exact br_So (br_So (req_So (req_So (req_So (req_So (fun h => h))))) (bind_So fun y0 => bind_So fun y1 => fun h => h)) (bind_So fun y2 => bind_So fun y3 => fun h => h)
theorem yd1 : SpecOK Try.prog elTT 46 (y91 y2k) := by
  refine spec_of_exFW (cfg := (y2q y0a y0q y0p yj y02)) (yo rfl rfl rfl) (yi yb5 (yi y98 (yi y8s (yi y3g (yi y80 yp))))) (pre := []) (wk := wk_ref20_Model_again) (fn := Try.f46) (by kernel_rfl) (by kernel_rfl) (by kernel_rfl) ?_
  intro args H K h
  change y6a y2k args H K at h
  unfold y6a at h
  repeat first | (obtain ⟨_, h⟩ := h) | replace h := Des.el h
  subst_vars
  refine Eq.mpr (yct y0a y0q y0p yj y02 _ _ _ _ _ _ _ K) ?_
  unfold y2k at h
  revert h
  exact req_So (req_So (bind_So fun y0 => br_So (br_So (fun h => h) (bind_So fun y1 => req_So (fun h => h))) (bind_So fun y2 => br_So (fun h => h) (br_So (bind_So fun y3 => bind_So fun y4 => lpok_ref20_Model_again_L1 _ (by first | assumption | exact default) (by first | assumption | exact default) _ (by first | assumption | exact default) (by first | assumption | exact default) _ _ _ _ _ _ _ K) (fun h => h)))))
theorem lpok_ref20_Model_total_L1 (m_Lv : T_assartref02_Layout) (m_Bv : List (List Int)) (m_Wv : List Int) (asked words iv : Int) (K : V → Heap → Prop) : So (y7j m_Bv (asked, words, iv)) (fun (x : Int × Int × Int) => K (.tup [vi x.1, vi x.2.1, vi x.2.2]) [.rcells (y0k m_Lv ++ [.row 1, .row 2]), .row 6 m_Bv true, .row 0 m_Wv true]) → Loop y2z (⟨44, 3⟩ : Cx) (at_ (bodyOf Try.f48) [1, 1, 1, 0, 1, 0, 0]) (mkEnv [(0, .ptr 0 0), (5, vi asked), (6, vi words), (7, vi iv)]) [.rcells (yl m_Lv.C ++ [.row 1, .row 2]), .row 6 m_Bv true, .row 0 m_Wv true] (contK y2z (⟨44, 3⟩ : Cx) (bodyOf Try.f48) [1, 1, 1, 0, 1, 0] (retK y2z Try.f48 3 K)) := by
  refine loopK_So (fun (s_ : Int × Int × Int) => (mkEnv [(0, .ptr 0 0), (5, vi s_.1), (6, vi s_.2.1), (7, vi s_.2.2)])) (fun (s_ : Int × Int × Int) => [.rcells (yl m_Lv.C ++ [.row 1, .row 2]), .row 6 m_Bv true, .row 0 m_Wv true]) (fun (x : Int × Int × Int) => K (.tup [vi x.1, vi x.2.1, vi x.2.2]) [.rcells (y0k m_Lv ++ [.row 1, .row 2]), .row 6 m_Bv true, .row 0 m_Wv true]) ?_ (asked, words, iv)
  intro s_ J1 h
  clear asked
  clear words
  clear iv
  obtain ⟨asked, words, iv⟩ := s_
  refine Eq.mpr (ydi m_Lv m_Bv m_Wv asked words iv K J1) ?_
  have h : So (y38 m_Bv asked words iv) _ := h
  unfold y38 at h
  revert h
  exact br_So (req_So (req_So (req_So (req_So (fun h => h))))) (fun h => h)
theorem ydk : SpecOK Try.prog elTT 48 (yar y26) := by
  refine spec_of_exF (cfg := y2z) (yo rfl rfl rfl) yp (fn := Try.f48) (by kernel_rfl) (by kernel_rfl) (by kernel_rfl) ?_
  intro args H K h
  change y4y y26 args H K at h
  unfold y4y at h
  repeat first | (obtain ⟨_, h⟩ := h) | replace h := Des.el h
  subst_vars
  refine Eq.mpr (yeh _ _ _ K) ?_
  unfold y26 at h
  revert h
  exact lpok_ref20_Model_total_L1 _ _ _ _ _ _ K
theorem yg5 : SpecOK Try.prog elTT 16 (y8z y0d) := by
  refine spec_of_exFW (cfg := (yb0 y1s y02 y0p y2k y0q y26 y1x y0t yj)) (yo rfl rfl rfl) (yi yes (yi y80 (yi y8s (yi yd1 (yi y98 (yi ydk (yi ygf (yi ybj (yi y3g yp))))))))) (pre := []) (wk := wk_ref20_Model_Step) (fn := Try.f16) (by kernel_rfl) (by kernel_rfl) (by kernel_rfl) ?_
  intro args H K h
  change y67 y0d args H K at h
  unfold y67 at h
  repeat first | (obtain ⟨_, h⟩ := h) | replace h := Des.el h
  subst_vars
  refine Eq.mpr (ycw y1s y02 y0p y2k y0q y26 y1x y0t yj _ _ _ _ _ _ K) ?_
  unfold y0d at h
  revert h
  exact br_So (fun h => h) (bind_So fun y0 => br_So (bind_So fun y1 => fun h => h) (bind_So fun y2 => br_So (bind_So fun y3 => fun h => h) (br_So (bind_So fun y4 => fun h => h) (br_So (bind_So fun y5 => fun h => h) (br_So (br_So (bind_So fun y6 => fun h => h) (br_So (fun h => h) (bind_So fun y7 => fun h => h))) (br_So (br_So (br_So (fun h => h) (br_So (fun h => h) (br_So (bind_So fun y8 => fun h => h) (fun h => h)))) (br_So (fun h => h) (br_So (bind_So fun y9 => fun h => h) (fun h => h)))) (br_So (br_So (fun h => h) (req_So (req_So (fun h => h)))) (br_So (fun h => h) (br_So (fun h => h) (br_So (br_So (br_So (fun h => h) (fun h => h)) (fun h => h)) (br_So (bind_So fun y10 => br_So (br_So (bind_So fun y11 => br_So (br_So (br_So (fun h => h) (fun h => h)) (fun h => h)) (fun h => h)) (fun h => h)) (fun h => h)) (bind_So fun y12 => br_So (fun h => h) (bind_So fun y13 => br_So (req_So (req_So (fun h => h))) (br_So (fun h => h) (req_So (req_So (fun h => h)))))))))))))))))
end Go.Rx
end

section
namespace Go.Rx
open Go.Proofs
section
variable {d : yc} {Lr : T_assartref02_Layout} {its B : List (List Int)} {ws : List Int}
theorem rat_spec (B : List (List Int)) (hn : B.length ≤ 1048576) (a : Int) : ∃ r, y02 a Lr B ws = some r ∧ ((r = -1 ∧ ∀ x ∈ B, kk x ≠ a) ∨ (∃ A b D, B = A ++ b :: D ∧ kk b = a ∧ r = (A.length : Int))) := by
  obtain ⟨r, h1, h2⟩ := scanS (step := fun s => y3q a B s) (l := B) (fun A => (A.length : Int)) (fun A => ∀ x ∈ A, kk x ≠ a) (fun r => (r = -1 ∧ ∀ x ∈ B, kk x ≠ a) ∨ (∃ A b D, B = A ++ b :: D ∧ kk b = a ∧ r = (A.length : Int)))
    (fun A b C e hA => by
      have hlt : decide ((A.length : Int) < (B.length : Int)) = true := by rw [e]; exact mid_lt A b C
      have hl : A.length < B.length := by rw [e]; simp
      have hi : inR (A.length : Int) B.length = true := by rw [e]; exact mid_in A b C
      have hg : B.getD A.length (List.replicate 3 0) = b := by rw [e]; exact mid_get A b C _
      have eb : List.getD b 0 0 = kk b := rfl
      simp only [y3q, hlt, cond_true, offs0, hi, Int.toNat_natCast, hg, eb]
      by_cases hk : kk b = a
      · right
        exact ⟨_, by rw [show (kk b == a) = true by simpa using hk, cond_true], .inr ⟨A, b, C, e, hk, rfl⟩⟩
      · left
        refine ⟨by rw [show (kk b == a) = false by simpa using hk, cond_false, wrap_succ (by omega)]; simp, fun x hx => ?_⟩
        rcases List.mem_append.1 hx with hx | hx
        · exact hA x hx
        · simp at hx; subst hx; exact hk)
    (fun hA => ⟨-1, by
      simp only [y3q]
      rw [decide_eq_false (by omega), cond_false], .inl ⟨rfl, hA⟩⟩)
    (by simp)
  exact ⟨r, h1, h2⟩
theorem rof_spec (B : List (List Int)) (hn : B.length ≤ 1048576) (hB : ∀ x ∈ B, 0 ≤ kk x + ww x ∧ kk x + ww x ≤ 1000000) (a : Int) : ∃ r, y0t a Lr B ws = some r ∧ decide (r ≥ 0) = B.any (fun x => decide (hasW x a)) ∧ decide (r < 0) = !B.any (fun x => decide (hasW x a)) := by
  obtain ⟨r, h1, h2⟩ := scanS (step := fun s => y3t a B s) (l := B) (fun A => (A.length : Int)) (fun A => ∀ x ∈ A, ¬ hasW x a) (fun r => (r = -1 ∧ ∀ x ∈ B, ¬ hasW x a) ∨ (0 ≤ r ∧ ∃ x ∈ B, hasW x a))
    (fun A b C e hA => by
      have hlt : decide ((A.length : Int) < (B.length : Int)) = true := by rw [e]; exact mid_lt A b C
      have hl : A.length < B.length := by rw [e]; simp
      have hi : inR (A.length : Int) B.length = true := by rw [e]; exact mid_in A b C
      have hg : B.getD A.length (List.replicate 3 0) = b := by rw [e]; exact mid_get A b C _
      have hm : b ∈ B := by rw [e]; simp
      have hb := hB b hm
      have eb : List.getD b 0 0 = kk b := rfl
      have ew : List.getD b 2 0 = ww b := rfl
      have nx : (¬ hasW b a) → ∀ x ∈ A ++ [b], ¬ hasW x a := fun hk x hx => by
        rcases List.mem_append.1 hx with hx | hx
        · exact hA x hx
        · simp at hx; subst hx; exact hk
      simp only [y3t, hlt, cond_true, offs0, hi, Int.toNat_natCast, hg, eb, ew]
      rw [wrap_id (x := kk b + ww b) (by omega) (by omega)]
      by_cases h1 : a ≥ kk b
      · by_cases h2 : a < kk b + ww b
        · right
          exact ⟨_, by rw [decide_eq_true h1, decide_eq_true h2, cond_true, cond_true], .inr ⟨by omega, b, hm, ⟨h1, h2⟩⟩⟩
        · left
          exact ⟨by rw [decide_eq_true h1, decide_eq_false h2, cond_true, cond_false, wrap_succ (by omega)]; simp, nx fun h => h2 h.2⟩
      · left
        exact ⟨by rw [decide_eq_false h1, cond_false, wrap_succ (by omega)]; simp, nx fun h => h1 h.1⟩)
    (fun hA => ⟨-1, by
      simp only [y3t]
      rw [decide_eq_false (by omega), cond_false], .inl ⟨rfl, hA⟩⟩)
    (by simp)
  refine ⟨r, h1, ?_⟩
  rcases h2 with ⟨rfl, h2⟩ | ⟨h2, x, h3, h4⟩
  · have : B.any (fun x => decide (hasW x a)) = false := by
      rw [List.any_eq_false]; intro x hx; simpa using h2 x hx
    rw [this]; exact ⟨rfl, rfl⟩
  · have : B.any (fun x => decide (hasW x a)) = true := List.any_eq_true.2 ⟨x, h3, by simpa using h4⟩
    rw [this, decide_eq_true h2, decide_eq_false (by omega)]; exact ⟨rfl, rfl⟩
theorem rwithout_eq (A : List (List Int)) (b : List Int) (D : List (List Int)) (hn : (A ++ b :: D).length ≤ 1048576) : y0q (A.length : Int) Lr (A ++ b :: D) ws = some (A ++ D, ws) := by
  have hl : (A ++ b :: D).length = A.length + (D.length + 1) := by simp
  rw [hl] at hn
  unfold y0q
  have w : IntKind.wrap IntKind.i64 ((A.length : Int) + 1) = ((A.length + 1 : Nat) : Int) := wrap_succ (by omega)
  rw [w, Int.toNat_natCast, Int.toNat_natCast, hl]
  have e1 : List.take A.length (List.drop 0 (A ++ b :: D)) = A := by simp
  have e2 : List.drop (A.length + 1) (A ++ b :: D) = D := by rw [← List.drop_drop]; simp
  have e3 : List.take (A.length + (D.length + 1) - (A.length + 1)) D = D := List.take_of_length_le (by omega)
  rw [e1, e2, e3, decide_eq_true (by omega), decide_eq_true (by omega), decide_eq_true (by omega), decide_eq_true (by omega), decide_eq_true (by omega), decide_eq_true (by omega)]; rfl
variable {L : yd}
theorem rat_rel (h : SOK L its) (hp : B.Perm its) (hn : its.length ≤ 1048576) (k : Int) : ∃ r, y02 k Lr B ws = some r ∧ ((r = -1 ∧ getK its k = none ∧ B.Perm (delK its k)) ∨
    (∃ A b D, B = A ++ b :: D ∧ r = (A.length : Int) ∧ getK its k = some b ∧ (A ++ D).Perm (delK its k) ∧ ∀ x, kk x = k → (A ++ D ++ [x]).Perm (updK its x))) := by
  obtain ⟨r, h1, h2⟩ := rat_spec (Lr := Lr) (ws := ws) B (by rw [hp.length_eq]; exact hn) k
  refine ⟨r, h1, ?_⟩
  rcases h2 with ⟨e, h2⟩ | ⟨A, b, D, e, hb, er⟩
  · have hall : ∀ x ∈ its, kk x ≠ k := fun x hx => h2 x (hp.mem_iff.2 hx)
    exact .inl ⟨e, get_no hall, by rw [del_no hall]; exact hp⟩
  · right
    have hm : b ∈ its := hp.mem_iff.1 (by rw [e]; simp)
    rcases h.look k with ⟨A', b', D', e', hb', _, hg, hd, hu⟩ | ⟨A', C', _, _, hno, _, _⟩
    · have hbb : b = b' := h.uniq hm (by rw [e']; simp) (by rw [hb, hb'])
      subst hbb
      have hp2 : (A ++ D).Perm (A' ++ D') := by
        have h1 : (b :: (A ++ D)).Perm (b :: (A' ++ D')) := by
          refine (List.perm_middle (l₁ := A) (l₂ := D)).symm.trans ?_
          rw [← e]
          refine hp.trans ?_
          rw [e']
          exact List.perm_middle
        exact h1.cons_inv
      refine ⟨A, b, D, e, er, hg, by rw [hd]; exact hp2, fun x hx => ?_⟩
      rw [hu x hx]
      refine (List.perm_append_comm).trans ?_
      exact (hp2.cons x).trans List.perm_middle.symm
    · exact absurd hb (hno b hm)
theorem rrnd_eq (n al : Int) : y0a n al = some (rndI n al) := by
  unfold y0a rndI
  by_cases h : n > 1048576
  · rw [decide_eq_true h, if_pos h]; rfl
  · rw [decide_eq_false h, if_neg h, rRound_eq _ _ (by omega)]; rfl
theorem rB_bound (h : SOK L its) (hp : B.Perm its) : ∀ x ∈ B, 0 ≤ kk x + ww x ∧ kk x + ww x ≤ 1000000 := fun x hx => by
  have hb := h.big
  have hB := h.all x (hp.mem_iff.1 hx)
  have := hB.lo; have := hB.hi; have := hB.one; omega
theorem rfitsL_eq (h : SOK L its) (hp : B.Perm its) (hn : its.length ≤ 1048576) {r : T_api_Reply} (ha : L.at_10 ≤ r.Addr ∧ r.Addr < L.at_11) {n : Int} (h0 : 0 ≤ n ∧ n ≤ L.at_11 - r.Addr) : y3o r Lr B ws n r.Addr = some (freeB its r.Addr n.toNat) := by
  have hb := h.big
  have hw : IntKind.wrap IntKind.i64 (r.Addr + n) = r.Addr + n := wrap_id (by omega) (by omega)
  obtain ⟨x, h1, h2⟩ := countS (step := fun s => y3d r Lr B ws n s) (fun i => r.Addr + (i : Int)) n.toNat (fun i => ∀ j, j < i → its.any (fun x => decide (hasW x (r.Addr + (j : Nat)))) = false) (fun x => x = freeB its r.Addr n.toNat)
    (fun i hi hI => by
      have hlt : decide (r.Addr + (i : Int) < r.Addr + n) = true := decide_eq_true (by omega)
      obtain ⟨y, hy, hy1, _⟩ := rof_spec (Lr := Lr) (ws := ws) B (by rw [hp.length_eq]; exact hn) (rB_bound h hp) (r.Addr + (i : Int))
      rw [any_perm hp] at hy1
      simp only [y3d, hw, hlt, cond_true, hy, Option.bind_some, hy1]
      cases hx : its.any (fun x => decide (hasW x (r.Addr + (i : Int)))) with
      | true => exact .inr ⟨false, rfl, (freeB_false hi hx).symm⟩
      | false =>
        left
        refine ⟨by rw [cond_false, wrap_id (by omega) (by omega), show r.Addr + (i : Int) + 1 = r.Addr + ((i + 1 : Nat) : Int) by omega], fun j hj => ?_⟩
        rcases Nat.lt_or_ge j i with h | h
        · exact hI j h
        · have : j = i := by omega
          subst this; exact hx)
    (fun hI => ⟨true, by
      simp only [y3d, hw]
      rw [decide_eq_false (by omega), cond_false], (freeB_true hI).symm⟩)
    (fun j hj => by omega)
  unfold y3o
  have h1 : loopO (fun s => y3d r Lr B ws n s) (r.Addr + ((0 : Nat) : Int)) = some x := h1
  rw [show r.Addr + ((0 : Nat) : Int) = r.Addr by omega] at h1
  rw [h1, h2]
end
section
variable {d : yc} {its B : List (List Int)} {ws : List Int}
theorem rfits_eq (hR : RightC d) (h : SOK (layC d) its) (hp : B.Perm its) (hn : its.length ≤ 1048576) {c : yb} {r : T_api_Reply} (hk : sized c) (hc : askP c) : y1a c r ⟨d⟩ B ws = some (fitB (layC d) its c r) := by
  have hb := h.big
  have hf := hc.2 hk
  have tail : ∀ (n : Int) (q : Option Bool) (t : Bool), (0 ≤ n) → (∀ _ : (layC d).at_10 ≤ r.Addr ∧ r.Addr < (layC d).at_11, ∀ _ : n ≤ (layC d).at_11 - r.Addr, q = some (t && freeB its r.Addr n.toNat)) →
      ((yj ⟨d⟩).bind fun y1 => bif decide (r.Addr < y1) then some false else (y01 ⟨d⟩).bind fun y2 => bif decide (r.Addr ≥ y2) then some false else (y01 ⟨d⟩).bind fun y3 => bif decide (n > IntKind.wrap IntKind.i64 (y3 - r.Addr)) then some false else q) =
      some (t && (decide ((layC d).at_10 ≤ r.Addr ∧ r.Addr < (layC d).at_11) && (decide (n ≤ (layC d).at_11 - r.Addr) && freeB its r.Addr n.toNat))) := by
    intro n q t hn0 hq
    rw [rUser_eq hR, Option.bind_some, rWords_eq hR, Option.bind_some, Option.bind_some]
    by_cases h1 : r.Addr < (layC d).at_10
    · rw [decide_eq_true h1, decide_eq_false (show ¬ ((layC d).at_10 ≤ r.Addr ∧ r.Addr < (layC d).at_11) by omega)]; cases t <;> rfl
    rw [decide_eq_false h1, cond_false]
    by_cases h2 : r.Addr ≥ (layC d).at_11
    · rw [decide_eq_true h2, decide_eq_false (show ¬ ((layC d).at_10 ≤ r.Addr ∧ r.Addr < (layC d).at_11) by omega)]; cases t <;> rfl
    rw [decide_eq_false h2, cond_false, decide_eq_true (show (layC d).at_10 ≤ r.Addr ∧ r.Addr < (layC d).at_11 by omega), wrap_id (by omega) (by omega)]
    by_cases h3 : n ≤ (layC d).at_11 - r.Addr
    · rw [decide_eq_false (by omega), cond_false, decide_eq_true h3, hq (by omega) h3]; cases t <;> rfl
    · rw [decide_eq_true (by omega), decide_eq_false h3]; cases t <;> rfl
  have nn : 0 ≤ rndI c.Size (alI c) := by
    unfold rndI; split
    · omega
    · have := roundI_le hf (by omega); omega
  have fin : ∀ al : Int, rndI c.Size (alI c) = rndI c.Size al → ∀ _ : (layC d).at_10 ≤ r.Addr ∧ r.Addr < (layC d).at_11, ∀ _ : rndI c.Size al ≤ (layC d).at_11 - r.Addr, (bif (Int.tmod r.Addr al != 0) then some false else y3o r ⟨d⟩ B ws (rndI c.Size al) r.Addr) = some ((Int.tmod r.Addr al == 0) && freeB its r.Addr (rndI c.Size al).toNat) := by
    intro al e h1 h2
    rw [rfitsL_eq h hp hn h1 ⟨by rw [← e]; exact nn, h2⟩]
    by_cases hm : Int.tmod r.Addr al = 0
    · rw [show (Int.tmod r.Addr al != 0) = false by simp [hm], show (Int.tmod r.Addr al == 0) = true by simp [hm]]; simp
    · rw [show (Int.tmod r.Addr al != 0) = true by simp [hm], show (Int.tmod r.Addr al == 0) = false by simp [hm]]; rfl
  unfold y1a fitB
  simp only [← eqR_def]
  by_cases h5 : c.Kind = 5
  · have ea : alI c = c.Align := by unfold alI; rw [if_pos h5]
    rw [ea] at nn hf ⊢
    rw [show (c.Kind == 5) = true by simp [h5], cond_true, rrnd_eq, Option.bind_some]
    have hal : (!c.Align == 0) = true := by
      have := hf.2; unfold powI at this
      have : c.Align ≠ 0 := by omega
      simpa using this
    have t := tail (rndI c.Size c.Align) _ (Int.tmod r.Addr c.Align == 0) nn (fin c.Align (by rw [ea]))
    rw [hal]
    simp only [cond_true]
    rw [t]
    cases eqR r 0 r.Addr (rndI c.Size c.Align) 0 <;> cases rndI c.Size c.Align == 0 <;> rfl
  · have ea : alI c = 1 := by unfold alI; rw [if_neg h5]
    rw [ea] at nn hf ⊢
    rw [show (c.Kind == 5) = false by simpa using h5, cond_false, rrnd_eq, Option.bind_some]
    have t := tail (rndI c.Size 1) _ (Int.tmod r.Addr 1 == 0) nn (fin 1 (by rw [ea]))
    rw [t]
    cases eqR r 0 r.Addr (rndI c.Size 1) 0 <;> cases rndI c.Size 1 == 0 <;> rfl
end
end Go.Rx
end

section
namespace Go.Rx
open Go.Proofs
section
variable {d : yc} {its B : List (List Int)} {ws : List Int}
def RR (o : Option (Bool × List (List Int) × List Int)) (x : Bool × List (List Int) × List Int) : Prop := ∃ B', o = some (x.1, B', x.2.2) ∧ B'.Perm x.2.1
theorem newsL_eq {c : yb} {r : T_api_Reply} {f : Int} (hB : B.length + 1 ≤ 1048576) (h0 : 0 ≤ f ∧ f + r.Size ≤ (ws.length : Int)) (hs : 0 ≤ r.Size ∧ r.Size ≤ 100000) (hf : f ≤ 100000) :
    y41 c r B f (0, ws) = some (true, B ++ [[r.Addr, c.Size, r.Size]], if c.Kind = 3 then zeroW ws f.toNat r.Size.toNat else ws) := by
  have e1 : decide (0 + B.length ≤ 1048576) = true := decide_eq_true (by omega)
  have e2 : decide (B.length + 1 ≤ 1048576) = true := decide_eq_true (by omega)
  by_cases h3 : c.Kind = 3
  · rw [if_pos h3]
    have hk : (c.Kind == 3) = true := by simpa using h3
    obtain ⟨x, h1, h2⟩ := countS (step := fun s => y34 c r B f s.1 s.2) (fun i => ((i : Int), zeroW ws f.toNat i)) r.Size.toNat (fun _ => True) (fun x => x = (true, B ++ [[r.Addr, c.Size, r.Size]], zeroW ws f.toNat r.Size.toNat))
      (fun i hi _ => by
        left
        refine ⟨?_, trivial⟩
        have hlt : decide ((i : Int) < r.Size) = true := decide_eq_true (by omega)
        have w1 : IntKind.wrap IntKind.i64 (f + (i : Int)) = f + (i : Int) := wrap_id (by omega) (by omega)
        have hin : inR (f + (i : Int)) (zeroW ws f.toNat i).length = true := by rw [zeroW_len]; exact inR_int (by omega) (by omega)
        simp only [y34, hlt, cond_true, hk, w1, offs0, hin]
        rw [wrap_succ (by omega), show (f + (i : Int)).toNat = f.toNat + i by omega]
        rfl)
      (fun _ => ⟨_, by
        simp only [y34]
        rw [decide_eq_false (by omega), cond_false, e1, e2, cond_true, cond_true], rfl⟩)
      trivial
    unfold y41
    have h1 : loopO (fun s => y34 c r B f s.1 s.2) (0, ws) = some x := h1
    rw [h1, h2]
  · rw [if_neg h3]
    have hk : (c.Kind == 3) = false := by simpa using h3
    unfold y41
    refine loopO_end ?_
    simp only [y34, hk, e1, e2, cond_true, cond_false]
    cases decide (0 < r.Size) <;> rfl
theorem rnews_eq (hR : RightC d) (h : SOK (layC d) its) (hp : B.Perm its) (hn : its.length + 1 ≤ 1048576) (hw : (ws.length : Int) = (layC d).at_11 - (layC d).at_10) {c : yb} {r : T_api_Reply} (hk : sized c) (hc : askP c) :
    RR (y0p c r ⟨d⟩ B ws) (freshR (layC d) its ws c r) := by
  have hb := h.big
  unfold y0p freshR
  simp only [← eqR_def]
  cases eqR r 6 0 0 0 with
  | true => exact ⟨B, rfl, hp⟩
  | false =>
    simp only [cond_false]
    rw [rfits_eq hR h hp (by omega) hk hc, Option.bind_some]
    cases hf : fitB (layC d) its c r with
    | false => exact ⟨B, rfl, hp⟩
    | true =>
      obtain ⟨f1, f2, f3, f4, f5, f6, f7⟩ := fit_spec (hc.2 hk) hf
      simp only [Bool.not_true, cond_false]
      rw [rUser_eq hR, Option.bind_some, wrap_id (by omega) (by omega), newsL_eq (by rw [hp.length_eq]; exact hn) ⟨by omega, by omega⟩ ⟨by omega, by omega⟩ (by omega)]
      refine ⟨_, rfl, ?_⟩
      refine List.perm_append_comm.trans ?_
      exact (hp.cons _).trans (putL_perm _).symm
theorem ragainL_eq {w : List (List Int)} {C : y2i} {c : yb} {to f : Int} (h : SOK (layC d) its) (hp : w.Perm its) (hn : its.length ≤ 1048576) {b : List Int} (hg : getK its C.A = some b) (h0 : 0 ≤ C.Asked ∧ 0 ≤ c.Size)
    (ht : 0 ≤ to ∧ to + min C.Asked c.Size ≤ (ws.length : Int)) (hf : 0 ≤ f ∧ f + min C.Asked c.Size ≤ (ws.length : Int)) (hl : (ws.length : Int) ≤ 100000) :
    ∃ B', y47 c ⟨d⟩ to f C w (0, ws) = some (true, B', copyW ws to.toNat f.toNat (min C.Asked c.Size).toNat) ∧ B'.Perm (delK its C.A) := by
  have key : ∀ ws' : List Int, ∃ B', (y02 C.A ⟨d⟩ w ws').bind (fun y0 => (y0q y0 ⟨d⟩ w ws').bind fun y1 => some (.inr (true, Prod.fst y1, Prod.snd y1) : (Int × List Int) ⊕ (Bool × List (List Int) × List Int))) = some (.inr (true, B', ws')) ∧ B'.Perm (delK its C.A) := by
    intro ws'
    obtain ⟨r, h1, h2⟩ := rat_rel (Lr := ⟨d⟩) (ws := ws') h hp hn C.A
    rcases h2 with ⟨_, h3, _⟩ | ⟨A, b', D, e, er, _, hd, _⟩
    · rw [h3] at hg; cases hg
    · refine ⟨A ++ D, ?_, hd⟩
      have hl : (A ++ b' :: D).length ≤ 1048576 := by rw [← e, hp.length_eq]; exact hn
      have hwo := rwithout_eq (Lr := ⟨d⟩) (ws := ws') A b' D hl
      rw [← e] at hwo
      rw [h1, Option.bind_some, er, hwo, Option.bind_some]
  obtain ⟨x, h1, h2⟩ := countS (step := fun s => y3f c ⟨d⟩ to f C w s.1 s.2) (fun i => ((i : Int), copyW ws to.toNat f.toNat i)) (min C.Asked c.Size).toNat (fun _ => True) (fun x => ∃ B', x = (true, B', copyW ws to.toNat f.toNat (min C.Asked c.Size).toNat) ∧ B'.Perm (delK its C.A))
    (fun i hi _ => by
      left
      refine ⟨?_, trivial⟩
      have hlt : decide ((i : Int) < C.Asked) = true := decide_eq_true (by omega)
      have hlt2 : decide ((i : Int) < c.Size) = true := decide_eq_true (by omega)
      have w1 : IntKind.wrap IntKind.i64 (f + (i : Int)) = f + (i : Int) := wrap_id (by omega) (by omega)
      have w2 : IntKind.wrap IntKind.i64 (to + (i : Int)) = to + (i : Int) := wrap_id (by omega) (by omega)
      have hin : inR (f + (i : Int)) (copyW ws to.toNat f.toNat i).length = true := by rw [copyW_len]; exact inR_int (by omega) (by omega)
      have hin2 : inR (to + (i : Int)) (copyW ws to.toNat f.toNat i).length = true := by rw [copyW_len]; exact inR_int (by omega) (by omega)
      simp only [y3f, hlt, hlt2, cond_true, w1, w2, offs0, hin, hin2]
      rw [wrap_succ (by omega), show (f + (i : Int)).toNat = f.toNat + i by omega, show (to + (i : Int)).toNat = to.toNat + i by omega]
      rfl)
    (fun _ => by
      obtain ⟨B', hB1, hB2⟩ := key (copyW ws to.toNat f.toNat (min C.Asked c.Size).toNat)
      refine ⟨_, ?_, B', rfl, hB2⟩
      simp only [y3f]
      by_cases ha : (((min C.Asked c.Size).toNat : Nat) : Int) < C.Asked
      · rw [decide_eq_true ha, cond_true, decide_eq_false (by omega), cond_false]; exact hB1
      · rw [decide_eq_false ha, cond_false]; exact hB1)
    trivial
  obtain ⟨B', h3, h4⟩ := h2
  refine ⟨B', ?_, h4⟩
  unfold y47
  have h1 : loopO (fun s => y3f c ⟨d⟩ to f C w s.1 s.2) (0, ws) = some x := h1
  rw [h1, h3]
theorem ragain_eq (hR : RightC d) (h : SOK (layC d) its) (hp : B.Perm its) (hn : its.length + 1 ≤ 1048575) (hw : (ws.length : Int) = (layC d).at_11 - (layC d).at_10) {c : yb} {r : T_api_Reply} (hk : c.Kind = 4) (hc : askP c)
    {A D : List (List Int)} {b : List Int} (e : B = A ++ b :: D) (hg : getK its c.Addr = some b) (hu : ∀ x, kk x = c.Addr → (A ++ D ++ [x]).Perm (updK its x)) :
    RR (y2k c r (A.length : Int) ⟨d⟩ B ws) (againR (layC d) its ws c r) := by
  have hb := h.big
  have hsz : sized c := .inr (.inr (.inl hk))
  have hfit := hc.2 hsz
  have hBl : B.length ≤ 1048574 := by rw [hp.length_eq]; omega
  obtain ⟨hm, hkb⟩ := getK_mem hg
  have hBK := h.all b hm
  have hi : inR (A.length : Int) B.length = true := by rw [e]; exact mid_in A b D
  have hgd : B.getD A.length (List.replicate 3 0) = b := by rw [e]; exact mid_get A b D _
  have e0 : List.getD b 0 0 = kk b := rfl
  have e1 : List.getD b 1 0 = aa b := rfl
  have e2 : List.getD b 2 0 = ww b := rfl
  unfold y2k againR
  rw [hg]
  simp only [offs0, Int.toNat_natCast, hgd, e0, e1, e2, hi, cond_true, hkb, ← eqR_def]
  rw [rrnd_eq, Option.bind_some]
  cases hr : rndI c.Size 1 == ww b with
  | true =>
    simp only [cond_true]
    cases eqR r 0 c.Addr (ww b) 0 with
    | false => exact ⟨B, rfl, hp⟩
    | true =>
      simp only [Bool.not_true, cond_false]
      have hlen : (A ++ b :: D).length ≤ 1048576 := by rw [← e]; omega
      have hwo := rwithout_eq (Lr := ⟨d⟩) (ws := ws) A b D hlen
      rw [← e] at hwo
      have hl2 : (A ++ D).length + 1 = B.length := by rw [e]; simp; omega
      rw [hwo, Option.bind_some, decide_eq_true (by simp only; omega), cond_true]
      exact ⟨_, rfl, hu [c.Addr, c.Size, ww b] rfl⟩
  | false =>
    simp only [cond_false]
    obtain ⟨B1, hn1, hn2⟩ := rnews_eq (ws := ws) (r := r) hR h hp (by omega) hw hsz hc
    have hok := freshR_ok (ws := ws) (r := r) h hfit
    rw [hn1, Option.bind_some]
    cases hf : (freshR (layC d) its ws c r).1 with
    | false => exact ⟨B1, rfl, hn2⟩
    | true =>
      simp only [Bool.not_true, cond_false]
      by_cases he : r.Err = 0
      · rw [show (r.Err == 0) = true by simpa using he, cond_true, show (r.Err != 0) = false by simp [he], cond_false, rUser_eq hR, Option.bind_some, Option.bind_some]
        have hfb : fitB (layC d) its c r = true := by
          unfold freshR at hf
          have : eqR r 6 0 0 0 = false := by
            cases h6 : eqR r 6 0 0 0 with
            | false => rfl
            | true => have := (eqR_iff h6).1; omega
          rw [this, cond_false] at hf
          cases hfb : fitB (layC d) its c r with
          | true => rfl
          | false => rw [hfb] at hf; cases hf
        obtain ⟨f1, f2, f3, f4, f5, f6, f7⟩ := fit_spec hfit hfb
        have h1 := hBK.lo; have h2 := hBK.hi; have h3 := hBK.ask
        rw [wrap_id (x := r.Addr - _) (by omega) (by omega), wrap_id (x := c.Addr - _) (by omega) (by omega)]
        have hfr : (freshR (layC d) its ws c r).2.1 = putL its [r.Addr, c.Size, r.Size] := by
          have h6 : eqR r 6 0 0 0 = false := by
            cases h6 : eqR r 6 0 0 0 with
            | false => rfl
            | true => have := (eqR_iff h6).1; omega
          unfold freshR
          rw [h6, hfb]; rfl
        have hg' : getK (freshR (layC d) its ws c r).2.1 c.Addr = some b := by
          have hmm : b ∈ (freshR (layC d) its ws c r).2.1 := by
            rw [hfr]; exact (putL_perm _).mem_iff.2 (by simp [hm])
          rcases hok.1.look c.Addr with ⟨A', b', D', e', hb', _, hg', _, _⟩ | ⟨_, _, _, _, hno, _, _⟩
          · have hbb : b = b' := hok.1.uniq hmm (by rw [e']; simp) (by rw [hkb, hb'])
            rw [hg', hbb]
          · exact absurd hkb (hno b hmm)
        obtain ⟨B', g1, g2⟩ := ragainL_eq (d := d) (its := (freshR (layC d) its ws c r).2.1) (w := B1) (ws := (freshR (layC d) its ws c r).2.2) (C := ⟨c.Addr, aa b, ww b⟩) (c := c) (to := r.Addr - (layC d).at_10) (f := c.Addr - (layC d).at_10) hok.1 hn2 (by omega) hg'
          ⟨h3.1, f5.1⟩ ⟨by omega, by rw [hok.2.1]; show _ + min (aa b) c.Size ≤ _; omega⟩ ⟨by omega, by rw [hok.2.1]; show _ + min (aa b) c.Size ≤ _; omega⟩ (by rw [hok.2.1]; omega)
        exact ⟨B', g1, g2⟩
      · rw [show (r.Err == 0) = false by simpa using he, cond_false, show (r.Err != 0) = true by simpa using he, cond_true]
        exact ⟨B1, rfl, hn2⟩
theorem rtotal_eq (hn : B.length ≤ 1048575) : y26 ⟨d⟩ B ws = some ((B.length : Int), sumw aa B, sumw ww B) := by
  obtain ⟨r, h1, h2⟩ := scanS (step := fun s => y38 B s.1 s.2.1 s.2.2) (l := B) (fun A => (sumw aa A, sumw ww A, (A.length : Int))) (fun _ => True) (fun r => r = ((B.length : Int), sumw aa B, sumw ww B))
    (fun A b C e _ => by
      left
      refine ⟨?_, trivial⟩
      have hlt : decide ((A.length : Int) < (B.length : Int)) = true := by rw [e]; exact mid_lt A b C
      have hl : A.length < B.length := by rw [e]; simp
      have hi : inR (A.length : Int) B.length = true := by rw [e]; exact mid_in A b C
      have hg : B.getD A.length (List.replicate 3 0) = b := by rw [e]; exact mid_get A b C _
      simp only [y38, hlt, cond_true, offs0, hi, Int.toNat_natCast, hg]
      rw [wrap_succ (by omega), sumw_snoc, sumw_snoc]
      simp [aa, ww])
    (fun _ => ⟨_, by
      simp only [y38]
      rw [decide_eq_false (by omega), cond_false], rfl⟩)
    trivial
  unfold y26 y7j
  have h1 : loopO (fun s => y38 B s.1 s.2.1 s.2.2) (0, 0, 0) = some r := h1
  rw [h1, h2]
theorem rStep_eq (hR : RightC d) (h : SOK (layC d) its) (hp : B.Perm its) (hn : its.length + 1 ≤ 1048575) (hw : (ws.length : Int) = (layC d).at_11 - (layC d).at_10) {c : yb} {r : T_api_Reply} (hb : CRB c r) :
    RR (y0d c r ⟨d⟩ B ws) (stepR (layC d) its ws c r) := by
  have hbig := h.big
  have hBl : B.length ≤ 1048574 := by rw [hp.length_eq]; omega
  unfold y0d stepR
  simp only [← eqR_def, ← eqS_def]
  cases eqR r 8 0 0 0 with
  | true => exact ⟨B, rfl, hp⟩
  | false =>
    simp only [cond_false]
    rw [rAsks_eq _ hb.size, Option.bind_some, Option.bind_some]
    by_cases hq : askP c
    · have ha : askI c = 0 := by unfold askI; rw [if_pos hq]
      simp only [ha, bne_self_eq_false, cond_false]
      obtain ⟨i, hi1, hi2⟩ := rat_rel (Lr := ⟨d⟩) (ws := ws) h hp (by omega) c.Addr
      rw [hi1, Option.bind_some]
      have e : ∀ k : Int, c.Kind ≠ k → (c.Kind == k) = false := fun k hk => by simpa using hk
      have e' : ∀ k : Int, c.Kind = k → (c.Kind == k) = true := fun k hk => by simpa using hk
      have news : sized c → RR ((y0p c r ⟨d⟩ B ws).bind fun y => some (Prod.fst y, Prod.fst (Prod.snd y), Prod.snd (Prod.snd y))) (freshR (layC d) its ws c r) := fun hs => by
        obtain ⟨B1, h1, h2⟩ := rnews_eq (ws := ws) (r := r) hR h hp (by omega) hw hs hq
        rw [h1, Option.bind_some]; exact ⟨B1, rfl, h2⟩
      by_cases h1 : c.Kind = 1 ∨ c.Kind = 3 ∨ c.Kind = 5
      · rw [if_pos h1]
        have n1 := news (by unfold sized; omega)
        rcases h1 with h1 | h1 | h1
        · rw [e' 1 h1, cond_true]; exact n1
        · rw [e 1 (by omega), e' 3 h1, cond_false, cond_true]; exact n1
        · rw [e 1 (by omega), e 3 (by omega), e' 5 h1, cond_false, cond_false, cond_true]; exact n1
      rw [if_neg h1, e 1 (by omega), e 3 (by omega), e 5 (by omega)]
      simp only [cond_false]
      by_cases h4 : c.Kind = 4
      · rw [if_pos h4, e' 4 h4, cond_true]
        by_cases hz : c.Addr = 0
        · rw [if_pos hz, show (c.Addr == 0) = true by simpa using hz, cond_true]; exact news (by unfold sized; omega)
        · rw [if_neg hz, show (c.Addr == 0) = false by simpa using hz, cond_false]
          rcases hi2 with ⟨er, hg, _⟩ | ⟨A, b, D, eB, er, hg, hd, hu⟩
          · rw [er, decide_eq_true (by omega), cond_true]
            unfold againR; rw [hg]; exact ⟨B, rfl, hp⟩
          · rw [er, decide_eq_false (by omega), cond_false]
            obtain ⟨B1, g1, g2⟩ := ragain_eq (r := r) hR h hp hn hw h4 hq eB hg hu
            rw [g1, Option.bind_some]; exact ⟨B1, rfl, g2⟩
      rw [if_neg h4, e 4 h4, cond_false]
      by_cases h2 : c.Kind = 2
      · rw [if_pos h2, e' 2 h2, cond_true]
        unfold freeR
        rcases hi2 with ⟨er, hg, hd⟩ | ⟨A, b, D, eB, er, hg, hd, hu⟩
        · rw [er, hg]
          by_cases hz : c.Addr = 0
          · rw [show (c.Addr != 0) = false by simp [hz]]
            simp only [cond_false, Option.isNone_none, Bool.true_and]
            cases eqR r 0 0 0 0 with
            | false => exact ⟨B, rfl, hp⟩
            | true => exact ⟨B, rfl, hd⟩
          · rw [show (c.Addr != 0) = true by simpa using hz]
            exact ⟨B, rfl, hp⟩
        · have hlen : (A ++ b :: D).length ≤ 1048576 := by rw [← eB]; omega
          have hwo := rwithout_eq (Lr := ⟨d⟩) (ws := ws) A b D hlen
          rw [← eB] at hwo
          rw [er, hg, hwo, Option.bind_some, decide_eq_false (show ¬ ((A.length : Int) < 0) by omega), decide_eq_true (show (A.length : Int) ≥ 0 by omega)]
          simp only [cond_false, cond_true, Option.isNone_some, Bool.false_and]
          cases eqR r 0 0 0 0 with
          | false => cases c.Addr != 0 <;> exact ⟨B, rfl, hp⟩
          | true => cases c.Addr != 0 <;> exact ⟨A ++ D, rfl, hd⟩
      rw [if_neg h2, e 2 h2, cond_false]
      by_cases h6 : c.Kind = 6
      · rw [if_pos h6, e' 6 h6, cond_true]
        unfold usableR
        rcases hi2 with ⟨er, hg, hd⟩ | ⟨A, b, D, eB, er, hg, hd, hu⟩
        · rw [er, hg]; exact ⟨B, rfl, hp⟩
        · have hi : inR (A.length : Int) B.length = true := by rw [eB]; exact mid_in A b D
          have hgd : B.getD A.length (List.replicate 3 0) = b := by rw [eB]; exact mid_get A b D _
          rw [er, hg, decide_eq_false (show ¬ ((A.length : Int) < 0) by omega), cond_false, offs0, hi, cond_true, cond_true, Int.toNat_natCast, hgd]
          exact ⟨B, rfl, hp⟩
      rw [if_neg h6, e 6 h6, cond_false]
      by_cases h7 : c.Kind = 7 ∨ c.Kind = 9
      · rw [if_pos h7]
        rcases h7 with h7 | h7
        · rw [e' 7 h7]; exact ⟨B, rfl, hp⟩
        · rw [e 7 (by omega), e' 9 h7]; exact ⟨B, rfl, hp⟩
      rw [if_neg h7, e 7 (by omega), e 9 (by omega)]
      simp only [cond_false]
      by_cases h8 : c.Kind = 8
      · rw [if_pos h8, e' 8 h8, cond_true]
        cases eqR r 0 0 r.Size 0 with
        | false => exact ⟨B, rfl, hp⟩
        | true =>
          by_cases hs : 0 ≤ r.Size
          · rw [decide_eq_true (show r.Size ≥ 0 from hs)]; exact ⟨B, rfl, hp⟩
          · rw [decide_eq_false (show ¬ r.Size ≥ 0 from hs)]; exact ⟨B, rfl, hp⟩
      rw [if_neg h8, e 8 h8, cond_false]
      by_cases h10 : c.Kind = 10
      · rw [if_pos h10, e' 10 h10, cond_true, rtotal_eq (by omega), Option.bind_some]
        unfold statsR
        rw [show (layC d).c = d from rfl, ← sumw_perm aa hp, ← sumw_perm ww hp, ← hp.length_eq, (right_c hb.stats).2, Option.bind_some]
        cases eqS r with
        | false => exact ⟨B, rfl, hp⟩
        | true =>
          simp only [cond_true, Bool.true_and]
          cases decide (r.Stats.Mapped ≤ d.Pages) with
          | false => cases rightB r.Stats <;> exact ⟨B, rfl, hp⟩
          | true =>
            cases rightB r.Stats with
            | false => exact ⟨B, rfl, hp⟩
            | true =>
              simp only [cond_true, Bool.true_and]
              cases r.Stats.Blocks == (B.length : Int) with
              | false => exact ⟨B, rfl, hp⟩
              | true => cases r.Stats.Asked == sumw aa B <;> exact ⟨B, rfl, hp⟩
      rw [if_neg h10, e 10 h10, cond_false]
      unfold accessR
      obtain ⟨y, hy, _, hy2⟩ := rof_spec (Lr := ⟨d⟩) (ws := ws) B (by omega) (rB_bound h hp) c.Addr
      rw [hy, Option.bind_some, hy2, any_perm hp]
      cases hx : its.any (fun x => decide (hasW x c.Addr)) with
      | false => exact ⟨B, rfl, hp⟩
      | true =>
        obtain ⟨x, hm, hh⟩ := List.any_eq_true.1 hx
        have hh : hasW x c.Addr := by simpa using hh
        have hB := h.all x hm
        have g1 := hB.lo; have g2 := hB.hi
        unfold hasW at hh
        simp only [Bool.not_true, cond_false]
        rw [rUser_eq hR, Option.bind_some, wrap_id (by omega) (by omega), offs0, inR_int (by omega) (by omega)]
        simp only [cond_true]
        cases c.Kind == 11 with
        | true =>
          simp only [cond_true]
          refine ⟨B, ?_, hp⟩
          unfold wordA
          rw [if_pos (by omega)]
        | false =>
          cases eqR r 0 0 0 0 with
          | false => exact ⟨B, rfl, hp⟩
          | true => exact ⟨B, rfl, hp⟩
    · have ha : askI c = 2 := by unfold askI; rw [if_neg hq]
      rw [ha]; exact ⟨B, rfl, hp⟩
end
end Go.Rx
end

noncomputable section
namespace Go.Rx
open Go.Proofs
set_option maxRecDepth 100000
set_option maxHeartbeats 4000000
def y57 (m_ : Y3) (args : List V) (H : Heap) (K : V → Heap → Prop) : Prop :=
  aC args fun a0 r => aC r fun a1 r => aN r <| aInt a0 fun user => aInt a1 fun a => aN H <| So (m_ user a) fun x => K (vi x) []
def y73 (m_ : Y3) : Spec := ⟨y57 m_, (true : Bool)⟩
abbrev Y19 := Int → y06 → Option y06
def y5d (m_ : Y19) (args : List V) (H : Heap) (K : V → Heap → Prop) : Prop :=
  aC args fun a0 r => aC r fun a1 r => aN r <| aInt a0 fun user => aAgg a1 fun c1 => y45 c1 fun a => aN H <| So (m_ user a) fun x => K (.agg (y4k x)) []
def yaj (m_ : Y19) : Spec := ⟨y5d m_, (true : Bool)⟩
def y86 (m_ : Option Bool) (args : List V) (H : Heap) (K : V → Heap → Prop) : Prop :=
  aN args <| aN H <| So (m_ ) fun x => K (vb x) []
def yat (m_ : Option Bool) : Spec := ⟨y86 m_, (true : Bool)⟩
def yaw  : Cfg := { cfgB with
  sigs := sigN }
def y9h (yy : Y3) : Cfg := { cfgB with
  sigs := (sigC 13 (y73 yy) sigN) }
def y9u (y00 : Y18) (y1d : Y21) (y1p : Y14) (ym : Y5) (y03 : Y12) (yz : yb → T_api_Reply → yd → (List Int) → (List (List Int)) → Option (Bool × (List (List Int)) × (List Int))) (yw : Y7) (yq : Int → yd → (List Int) → (List (List Int)) → Option (Int × Int × Bool)) : Cfg := { cfgB with
  sigs := (sigC 9 (y5c y00) (sigC 31 (y77 y1d) (sigC 10 (y9x y1p) (sigC 23 (y1u ym) (sigC 15 (altNil (y4x yz) (y5w y03)) (sigC 21 (altNil (y3v yq) (y40 yw)) sigN)))))) }
theorem ye7 (user a : Int) (K : V → Heap → Prop) : (exF yaw Try.f13 [vi user, vi a] [] K) = (
    br (decide (a ≥ 1)) (br (decide (a ≤ 400)) (K (vi (IntKind.i64.wrap (IntKind.i64.wrap (user + a) - 1))) []) (K (vi a) [])) (K (vi a) [])) := by kernel_rfl
theorem yd7 (yy : Y3) (user : Int) (a : y06) (K : V → Heap → Prop) : (exF (y9h yy) Try.f14 [vi user, .agg (y4k a)] [] K) = (
    So (yy user a.Call.Addr) (fun (y0 : Int) => (So (yy user a.Reply.Addr) (fun (y1 : Int) => (K (.agg ([vi a.Call.Kind, vi y0, vi a.Call.Size, vi a.Call.Align, vi a.Call.Value, vi a.Reply.Err, vi y1, vi a.Reply.Size, vi a.Reply.Value] ++ y42 a.Reply.Stats)) []))))) := by kernel_rfl
theorem ydn (y00 : Y18) (y1d : Y21) (y1p : Y14) (ym : Y5) (y03 : Y12) (yz : yb → T_api_Reply → yd → (List Int) → (List (List Int)) → Option (Bool × (List (List Int)) × (List Int))) (yw : Y7) (yq : Int → yd → (List Int) → (List (List Int)) → Option (Int × Int × Bool)) (K : V → Heap → Prop) : (exF (y9u y00 y1d y1p ym y03 yz yw yq) Try.f8 [] [] K) = (
    So (y00 (yc.mk 0 0 0 0 0 0 0 0 0 0 0)) (fun (y0 : yc) => (So (y1d y0) (fun (y1 : yd × Int) => (So (y1p y0) (fun (y2 : Bool × Int × yd × List Int × List (List Int)) => (br y2.1 (So (ym y1.1) (fun (y3 : Int) => (So (yz (yb.mk 1 0 3 0 0) (T_api_Reply.mk 0 (IntKind.i64.wrap (y3 + 4)) 4 0 (ya.mk 0 0 0 0 0 0 0)) y2.2.2.1 y2.2.2.2.1 y2.2.2.2.2) (fun (y4 : Bool × List (List Int) × List Int) => (So (yz (yb.mk 1 0 3 0 0) (T_api_Reply.mk 0 (IntKind.i64.wrap (y3 + 6)) 4 0 (ya.mk 0 0 0 0 0 0 0)) y2.2.2.1 y4.2.2 y4.2.1) (fun (y5 : Bool × List (List Int) × List Int) => (So (yq (IntKind.i64.wrap (y3 + 7)) y2.2.2.1 y5.2.2 y5.2.1) (fun (y6 : Int × Int × Bool) => (br (y1.2 == 0) (br (y2.2.1 == 0) (br y4.1 (br (!y5.1) (br (y6.1 == IntKind.i64.wrap (y3 + 4)) (br (y6.2.1 == 4) (K (vb y6.2.2) []) (K (vb false) [])) (K (vb false) [])) (K (vb false) [])) (K (vb false) [])) (K (vb false) [])) (K (vb false) [])))))))))) (So (ym y1.1) (fun (y7 : Int) => (So (y03 (yb.mk 1 0 3 0 0) (T_api_Reply.mk 0 (IntKind.i64.wrap (y7 + 4)) 4 0 (ya.mk 0 0 0 0 0 0 0))) (fun (y8 : Bool) => (So (y03 (yb.mk 1 0 3 0 0) (T_api_Reply.mk 0 (IntKind.i64.wrap (y7 + 6)) 4 0 (ya.mk 0 0 0 0 0 0 0))) (fun (y9 : Bool) => (So (yw (IntKind.i64.wrap (y7 + 7))) (fun (y10 : Int × Int × Bool) => (br (y1.2 == 0) (br (y2.2.1 == 0) (br y8 (br (!y9) (br (y10.1 == IntKind.i64.wrap (y7 + 4)) (br (y10.2.1 == 4) (K (vb y10.2.2) []) (K (vb false) [])) (K (vb false) [])) (K (vb false) [])) (K (vb false) [])) (K (vb false) [])) (K (vb false) []))))))))))))))))) := by kernel_rfl
def yy (user a : Int) : Option Int :=
  (bif (decide (a ≥ 1)) then (bif (decide (a ≤ 400)) then some (IntKind.i64.wrap (IntKind.i64.wrap (user + a) - 1)) else some a) else some a)
def y09 (user : Int) (a : y06) : Option y06 :=
  ((yy user a.Call.Addr).bind fun y0 => ((yy user a.Reply.Addr).bind fun y1 => some (y06.mk (yb.mk a.Call.Kind y0 a.Call.Size a.Call.Align a.Call.Value) (T_api_Reply.mk a.Reply.Err y1 a.Reply.Size a.Reply.Value a.Reply.Stats))))
def y08  : Option Bool :=
  ((y00 (yc.mk 0 0 0 0 0 0 0 0 0 0 0)).bind fun y0 => ((y1d y0).bind fun y1 => ((y1p y0).bind fun y2 => (bif y2.1 then ((ym y1.1).bind fun y3 => ((yz (yb.mk 1 0 3 0 0) (T_api_Reply.mk 0 (IntKind.i64.wrap (y3 + 4)) 4 0 (ya.mk 0 0 0 0 0 0 0)) y2.2.2.1 y2.2.2.2.1 y2.2.2.2.2).bind fun y4 => ((yz (yb.mk 1 0 3 0 0) (T_api_Reply.mk 0 (IntKind.i64.wrap (y3 + 6)) 4 0 (ya.mk 0 0 0 0 0 0 0)) y2.2.2.1 y4.2.2 y4.2.1).bind fun y5 => ((yq (IntKind.i64.wrap (y3 + 7)) y2.2.2.1 y5.2.2 y5.2.1).bind fun y6 => (bif (y1.2 == 0) then (bif (y2.2.1 == 0) then (bif y4.1 then (bif (!y5.1) then (bif (y6.1 == IntKind.i64.wrap (y3 + 4)) then (bif (y6.2.1 == 4) then some y6.2.2 else some false) else some false) else some false) else some false) else some false) else some false))))) else ((ym y1.1).bind fun y7 => ((y03 (yb.mk 1 0 3 0 0) (T_api_Reply.mk 0 (IntKind.i64.wrap (y7 + 4)) 4 0 (ya.mk 0 0 0 0 0 0 0))).bind fun y8 => ((y03 (yb.mk 1 0 3 0 0) (T_api_Reply.mk 0 (IntKind.i64.wrap (y7 + 6)) 4 0 (ya.mk 0 0 0 0 0 0 0))).bind fun y9 => ((yw (IntKind.i64.wrap (y7 + 7))).bind fun y10 => (bif (y1.2 == 0) then (bif (y2.2.1 == 0) then (bif y8 then (bif (!y9) then (bif (y10.1 == IntKind.i64.wrap (y7 + 4)) then (bif (y10.2.1 == 4) then some y10.2.2 else some false) else some false) else some false) else some false) else some false) else some false)))))))))
attribute [local irreducible] Loop ex exF contK roundK retK at_ bodyOf mkEnv
theorem yas : SpecOK Try.prog elTT 13 (y73 yy) := by
  refine spec_of_exF (cfg := yaw) (yo rfl rfl rfl) yp (fn := Try.f13) (by kernel_rfl) (by kernel_rfl) (by kernel_rfl) ?_
  intro args H K h
  change y57 yy args H K at h
  unfold y57 at h
  repeat first | (obtain ⟨_, h⟩ := h) | replace h := Des.el h
  subst_vars
  refine Eq.mpr (ye7 _ _ K) ?_
  unfold yy at h
  revert h
  exact br_So (br_So (fun h => h) (fun h => h)) (fun h => h)
theorem ycb : SpecOK Try.prog elTT 14 (yaj y09) := by
  refine spec_of_exF (cfg := (y9h yy)) (yo rfl rfl rfl) (yi yas yp) (fn := Try.f14) (by kernel_rfl) (by kernel_rfl) (by kernel_rfl) ?_
  intro args H K h
  change y5d y09 args H K at h
  unfold y5d at h
  repeat first | (obtain ⟨_, h⟩ := h) | replace h := Des.el h
  subst_vars
  refine Eq.mpr (yd7 yy _ _ K) ?_
  unfold y09 at h
  revert h
  exact bind_So fun y0 => bind_So fun y1 => fun h => h
theorem ygg : SpecOK Try.prog elTT 8 (yat y08) := by
  refine spec_of_exF (cfg := (y9u y00 y1d y1p ym y03 yz yw yq)) (yo rfl rfl rfl) (yi ybp (yi yaq (yi ybu (yi y37 (yi (altNil_ok y97 y8o) (yi (altNil_ok y4m y4j) yp)))))) (fn := Try.f8) (by kernel_rfl) (by kernel_rfl) (by kernel_rfl) ?_
  intro args H K h
  change y86 y08 args H K at h
  unfold y86 at h
  repeat first | (obtain ⟨_, h⟩ := h) | replace h := Des.el h
  subst_vars
  refine Eq.mpr (ydn y00 y1d y1p ym y03 yz yw yq  K) ?_
  unfold y08 at h
  revert h
  exact bind_So fun y0 => bind_So fun y1 => bind_So fun y2 => br_So (bind_So fun y3 => bind_So fun y4 => bind_So fun y5 => bind_So fun y6 => br_So (br_So (br_So (br_So (br_So (br_So (fun h => h) (fun h => h)) (fun h => h)) (fun h => h)) (fun h => h)) (fun h => h)) (fun h => h)) (bind_So fun y7 => bind_So fun y8 => bind_So fun y9 => bind_So fun y10 => br_So (br_So (br_So (br_So (br_So (br_So (fun h => h) (fun h => h)) (fun h => h)) (fun h => h)) (fun h => h)) (fun h => h)) (fun h => h))
end Go.Rx
end

section
namespace Go.Rx
open Go.Proofs
theorem Small20 (c : yc) : ∃ d, y00 c = some d ∧ RightC d := by
  obtain ⟨d, h1, h2⟩ := Some_eq c
  unfold y00
  rw [h1, Option.bind_some]
  refine ⟨_, rfl, ?_⟩
  obtain ⟨a, b, d', e, f, g, h', i, j, k, l⟩ := h2
  have md : ∀ x m : Int, 0 ≤ x → 0 < m → m ≤ 10 → Int.tmod x m = x % m ∧ 0 ≤ x % m ∧ x % m < m := fun x m h1 h2 h3 => ⟨Int.tmod_eq_emod_of_nonneg h1, Int.emod_nonneg _ (by omega), Int.emod_lt_of_pos _ h2⟩
  have m1 := md d.Workers 4 (by omega) (by omega) (by omega)
  have m2 := md d.CPUs 2 (by omega) (by omega) (by omega)
  have m3 := md d.Pages 9 (by omega) (by omega) (by omega)
  have m4 := md d.Stripes 4 (by omega) (by omega) (by omega)
  have m5 := md d.Private 3 (by omega) (by omega) (by omega)
  have m6 := md d.Cache 3 (by omega) (by omega) (by omega)
  have m7 := md d.Bin 4 (by omega) (by omega) (by omega)
  have m8 := md d.Batch 3 (by omega) (by omega) (by omega)
  simp only [m1.1, m2.1, m3.1, m4.1, m5.1, m6.1, m7.1, m8.1]
  simp (disch := omega) only [wrap_id]
  exact ⟨by simp only; omega, by simp only; omega, by simp only; omega, by simp only; omega, f, g, h', by simp only; omega, by simp only; omega, by simp only; omega, by simp only; omega⟩
theorem New_eq (c : yc) : y1p c = some (if RightC c then (true, 0, layC c, List.replicate (c.Pages * 32).toNat 0, []) else (false, 2, ⟨⟨0,0,0,0,0,0,0,0,0,0,0⟩,0,0,0,0,0,0,0,0,0,0,0,0⟩, [], [])) := by
  unfold y1p
  rw [Of_eq, Option.bind_some]
  by_cases h : RightC c
  · have hb := (layC_ok h).big; have h11 := (layC_ok h).a11; have hp := (layC_ok h).pages
    have e : (layC c).c = c := rfl
    rw [e] at h11 hp
    rw [if_pos h, if_pos h]
    simp only [bne_self_eq_false, cond_false]
    rw [Words_eq, Option.bind_some, User_eq, Option.bind_some, wrap_id (by omega) (by omega), show (layC c).at_11 - (layC c).at_10 = c.Pages * 32 by omega, decide_eq_true (by omega)]; rfl
  · rw [if_neg h, if_neg h]; rfl
theorem NewR_eq {c : yc} (h : RightC c) : (y1p c).bind (fun x => bif x.1 then some x.2 else none) = some (0, layC c, List.replicate (c.Pages * 32).toNat 0, []) := by
  rw [New_eq, if_pos h]; rfl
theorem nil_SOK {c : yc} (h : RightC c) : SOK (layC c) [] := ⟨layC_ok h, by simp, List.Pairwise.nil⟩
theorem rep_len {c : yc} (h : RightC c) : ((List.replicate (c.Pages * 32).toNat (0 : Int)).length : Int) = (layC c).at_11 - (layC c).at_10 := by
  have h11 := (layC_ok h).a11; have hp := (layC_ok h).pages
  have e : (layC c).c = c := rfl
  rw [e] at h11 hp
  rw [List.length_replicate]; omega
theorem lives_ok : y08 = some true := by
  obtain ⟨d, h1, h2⟩ := Small20 ⟨0, 0, 0, 0, 0, 0, 0, 0, 0, 0, 0⟩
  have hL := layC_ok h2
  have hb := hL.big; have h11 := hL.a11; have hp := hL.pages
  unfold y08
  rw [h1, Option.bind_some, Of_eq, if_pos h2, Option.bind_some, New_eq, if_pos h2, Option.bind_some, cond_true, User_eq, Option.bind_some]
  simp only
  generalize hu : (layC d).at_10 = u at *
  have w1 : IntKind.wrap IntKind.i64 (u + 4) = u + 4 := wrap_id (by omega) (by omega)
  have w2 : IntKind.wrap IntKind.i64 (u + 6) = u + 6 := wrap_id (by omega) (by omega)
  have w3 : IntKind.wrap IntKind.i64 (u + 7) = u + 7 := wrap_id (by omega) (by omega)
  rw [w1, w2, w3]
  have hw := rep_len h2
  generalize List.replicate (d.Pages * 32).toNat (0 : Int) = ws at *
  have hrnd : rndI 3 1 = 4 := rfl
  have hcrb : ∀ a, CRB ⟨1, 0, 3, 0, 0⟩ ⟨0, a, 4, 0, ⟨0, 0, 0, 0, 0, 0, 0⟩⟩ := fun a => ⟨by simp, by simp, by simp [statB]⟩
  have hask : askI ⟨1, 0, 3, 0, 0⟩ = 0 := rfl
  have e8 : ∀ a, eqR ⟨0, a, 4, 0, ⟨0, 0, 0, 0, 0, 0, 0⟩⟩ 8 0 0 0 = false := fun a => rfl
  have e6 : ∀ a, eqR ⟨0, a, 4, 0, ⟨0, 0, 0, 0, 0, 0, 0⟩⟩ 6 0 0 0 = false := fun a => rfl
  have st : ∀ its a, stepR (layC d) its ws ⟨1, 0, 3, 0, 0⟩ ⟨0, a, 4, 0, ⟨0, 0, 0, 0, 0, 0, 0⟩⟩ = bif !fitB (layC d) its ⟨1, 0, 3, 0, 0⟩ ⟨0, a, 4, 0, ⟨0, 0, 0, 0, 0, 0, 0⟩⟩ then (false, its, ws) else (true, putL its [a, 3, 4], ws) := by
    intro its a
    unfold stepR freshR
    rw [e8, e6, hask]; rfl
  have f1 : fitB (layC d) [] ⟨1, 0, 3, 0, 0⟩ ⟨0, u + 4, 4, 0, ⟨0, 0, 0, 0, 0, 0, 0⟩⟩ = true := by
    unfold fitB
    rw [show alI ⟨1, 0, 3, 0, 0⟩ = 1 from rfl, show (⟨1, 0, 3, 0, 0⟩ : yb).Size = 3 from rfl, hrnd, hu]
    simp only
    rw [decide_eq_true (show u ≤ u + 4 ∧ u + 4 < (layC d).at_11 by omega), decide_eq_true (show (4 : Int) ≤ (layC d).at_11 - (u + 4) by omega), Int.tmod_one]
    simp [eqR, freeB]
  have f2 : fitB (layC d) [[u + 4, 3, 4]] ⟨1, 0, 3, 0, 0⟩ ⟨0, u + 6, 4, 0, ⟨0, 0, 0, 0, 0, 0, 0⟩⟩ = false := by
    unfold fitB
    rw [show alI ⟨1, 0, 3, 0, 0⟩ = 1 from rfl, show (⟨1, 0, 3, 0, 0⟩ : yb).Size = 3 from rfl, hrnd]
    have : freeB [[u + 4, 3, 4]] (u + 6) (4 : Int).toNat = false := by
      refine freeB_false (i := 0) (by decide) ?_
      have hh : hasW [u + 4, 3, 4] (u + 6) := by
        show u + 4 ≤ _ ∧ _ < u + 4 + 4; omega
      simp [hh]
    simp only
    rw [this]; simp
  have s0 := nil_SOK h2
  rw [Step_eq s0 (by simp) hw (hcrb _), Option.bind_some, st, f1]
  simp only [Bool.not_true, cond_false]
  have ep : putL [] [u + 4, 3, 4] = [[u + 4, 3, 4]] := rfl
  rw [ep]
  have s1 : SOK (layC d) [[u + 4, 3, 4]] := by
    refine ⟨hL, fun x hx => ?_, List.pairwise_singleton _ _⟩
    simp at hx; subst hx
    exact ⟨rfl, by show _ ≤ u + 4; omega, by show (1 : Int) ≤ 4; omega, by show u + 4 + 4 ≤ _; omega, by show (0 : Int) ≤ 3 ∧ (3 : Int) ≤ 4; omega⟩
  rw [Step_eq s1 (by simp) hw (hcrb _), Option.bind_some, st, f2]
  simp only [Bool.not_false, cond_true]
  rw [Block_eq s1 (by simp) (by omega), Option.bind_some, show blkA [[u + 4, 3, 4]] (u + 7) = (u + 4, 4, true) from blkA_at (A := []) (b := [u + 4, 3, 4]) (C := []) (by simp) (by show u + 4 ≤ _ ∧ _ < u + 4 + 4; omega)]
  simp
end Go.Rx
end

section
namespace Go.Rx
open Go.Proofs
section
variable {d : yc} {its B : List (List Int)} {ws : List Int}
def below (its : List (List Int)) (k : Int) : List (List Int) := its.filter fun x => decide (kk x < k)
theorem below_split {k : Int} {A C : List (List Int)} (h : splitP k its A C) : below its k = A := by
  obtain ⟨e, hA, hC⟩ := h
  subst e
  unfold below
  rw [List.filter_append, List.filter_eq_self.2 (fun y hy => decide_eq_true (hA y hy)), List.filter_eq_nil_iff.2 (fun y hy => by have := hC y hy; simp; omega), List.append_nil]
theorem pairs_len (l : List (List Int)) : (pairs l).length = l.length := by simp [pairs]
theorem rLive_eq (hR : RightC d) (h : SOK (layC d) its) (hp : B.Perm its) (hn : its.length ≤ 1048575) : y0e ⟨d⟩ B ws = some (pairs its) := by
  have hb := h.big
  have hBl : B.length = its.length := hp.length_eq
  obtain ⟨r, h1, h2⟩ := countS (step := fun s => y3b ⟨d⟩ B ws s.1 s.2) (fun i => ((layC d).at_10 + (i : Int), pairs (below its ((layC d).at_10 + (i : Int))))) ((layC d).at_11 - (layC d).at_10).toNat (fun _ => True) (fun r => r = pairs its)
    (fun i hi _ => by
      left
      refine ⟨?_, trivial⟩
      have hlt : decide ((layC d).at_10 + (i : Int) < (layC d).at_11) = true := decide_eq_true (by omega)
      have hsucc : (layC d).at_10 + ((i + 1 : Nat) : Int) = (layC d).at_10 + (i : Int) + 1 := by omega
      obtain ⟨y, hy1, hy2⟩ := rat_rel (Lr := ⟨d⟩) (ws := ws) h hp (by omega) ((layC d).at_10 + (i : Int))
      have hbl : (below its ((layC d).at_10 + (i : Int))).length ≤ its.length := List.length_filter_le _ _
      simp only [y3b, rWords_eq hR, Option.bind_some, hlt, cond_true, hy1]
      rw [wrap_id (by omega) (by omega), hsucc]
      rcases hy2 with ⟨ey, hg, _⟩ | ⟨A, b, D, eB, ey, hg, _, _⟩
      · rw [ey, decide_eq_false (by omega), cond_false]
        have : below its ((layC d).at_10 + (i : Int) + 1) = below its ((layC d).at_10 + (i : Int)) := by
          unfold below
          refine List.filter_congr fun x hx => ?_
          have hne : kk x ≠ (layC d).at_10 + (i : Int) := by
            rcases h.look ((layC d).at_10 + (i : Int)) with ⟨_, b, _, _, _, _, hg', _, _⟩ | ⟨_, _, _, _, hno, _, _⟩
            · rw [hg'] at hg; cases hg
            · exact hno x hx
          by_cases hl : kk x < (layC d).at_10 + (i : Int)
          · rw [decide_eq_true hl, decide_eq_true (by omega)]
          · rw [decide_eq_false hl, decide_eq_false (by omega)]
        rw [this]
      · have hi' : inR (A.length : Int) B.length = true := by rw [eB]; exact mid_in A b D
        have hgd : B.getD A.length (List.replicate 3 0) = b := by rw [eB]; exact mid_get A b D _
        rw [ey, decide_eq_true (by omega), cond_true, offs0, hi', cond_true, cond_true, Int.toNat_natCast, hgd]
        rcases h.look ((layC d).at_10 + (i : Int)) with ⟨A', b', D', e', hb', hs, hg', _, _⟩ | ⟨_, _, _, _, _, hg', _⟩
        · rw [hg'] at hg
          injection hg with hg
          subst hg
          have b1 := below_split hs
          have b2 : below its ((layC d).at_10 + (i : Int) + 1) = A' ++ [b'] := by
            refine below_split (C := D') ⟨by rw [e']; simp, fun x hx => ?_, fun x hx => ?_⟩
            · rcases List.mem_append.1 hx with hx | hx
              · have := hs.2.1 x hx; omega
              · simp at hx; subst hx; omega
            · have := (h.keys e').2 x hx; omega
          have hAl : A'.length + 1 ≤ its.length := by rw [e']; simp
          rw [b1, b2, pairs_len, decide_eq_true (by omega), cond_true]
          have : pairs (A' ++ [b']) = pairs A' ++ [⟨(layC d).at_10 + (i : Int), List.getD b' 1 0⟩] := by
            rw [← hb']; simp [pairs, aa]
          rw [this]
        · rw [hg'] at hg; cases hg)
    (fun _ => ⟨_, by
      simp only [y3b, rWords_eq hR, Option.bind_some]
      rw [decide_eq_false (by omega), cond_false], by
      have : below its ((layC d).at_10 + ((((layC d).at_11 - (layC d).at_10).toNat : Nat) : Int)) = its := by
        unfold below
        rw [List.filter_eq_self]
        intro x hx
        have := (h.all x hx).hi; have := (h.all x hx).one
        exact decide_eq_true (by omega)
      rw [this]⟩)
    trivial
  unfold y0e y5u
  rw [rUser_eq hR, Option.bind_some]
  have e0 : below its ((layC d).at_10 + ((0 : Nat) : Int)) = [] := by
    unfold below
    rw [List.filter_eq_nil_iff]
    intro x hx
    have := (h.all x hx).lo
    simp; omega
  have h1 : loopO (fun s => y3b ⟨d⟩ B ws s.1 s.2) ((layC d).at_10 + ((0 : Nat) : Int), pairs (below its ((layC d).at_10 + ((0 : Nat) : Int)))) = some r := h1
  rw [e0, show (layC d).at_10 + ((0 : Nat) : Int) = (layC d).at_10 by omega] at h1
  exact h1.trans (by rw [h2])
end
theorem Same_self (x : List Pr) (hx : x.length ≤ 4611686018427387904) : y0g x x = some true := by
  obtain ⟨r, h1, h2⟩ := scanS (step := fun s => y3h x x s) (l := x) (fun A => (A.length : Int)) (fun _ => True) (fun r => r = true)
    (fun A b C e _ => by
      left
      refine ⟨?_, trivial⟩
      have hlt : decide ((A.length : Int) < (x.length : Int)) = true := by rw [e]; exact mid_lt A b C
      have hl : A.length < x.length := by rw [e]; simp
      have hi : inR (A.length : Int) x.length = true := by rw [e]; exact mid_in A b C
      simp only [y3h, hlt, cond_true, offs0, hi, beq_self_eq_true, Bool.and_self, Bool.not_true, cond_false]
      rw [wrap_succ (by omega)]; simp)
    (fun _ => ⟨_, by
      simp only [y3h]
      rw [decide_eq_false (by omega), cond_false], rfl⟩)
    trivial
  unfold y0g y6l
  rw [show ((x.length : Int) != (x.length : Int)) = false by simp, cond_false]
  have h1 : loopO (fun s => y3h x x s) 0 = some r := h1
  rw [h1, h2]
def I64 (x : Int) : Prop := -9223372036854775808 ≤ x ∧ x ≤ 9223372036854775807
def layI (u a : Int) : Int := if 1 ≤ a ∧ a ≤ 400 then u + a - 1 else a
theorem lay20_eq {u a : Int} (hu : 0 ≤ u ∧ u ≤ 100000) : yy u a = some (layI u a) := by
  unfold yy layI
  by_cases h1 : 1 ≤ a
  · by_cases h2 : a ≤ 400
    · rw [decide_eq_true (show a ≥ 1 from h1), decide_eq_true h2, if_pos ⟨h1, h2⟩, wrap_id (x := u + a) (by omega) (by omega), wrap_id (by omega) (by omega)]; rfl
    · rw [decide_eq_true (show a ≥ 1 from h1), decide_eq_false h2, if_neg (fun h => h2 h.2)]; rfl
  · rw [decide_eq_false (show ¬ a ≥ 1 from h1), if_neg (fun h => h1 h.1)]; rfl
theorem layI_b {u a : Int} (hu : 0 ≤ u ∧ u ≤ 100000) (ha : I64 a) : I64 (layI u a) := by
  unfold layI I64 at *; split <;> omega
def actC (e : List Int) : yb := ⟨e.getD 0 0, e.getD 1 0, e.getD 2 0, e.getD 3 0, e.getD 4 0⟩
def actR (e : List Int) : T_api_Reply := ⟨e.getD 5 0, e.getD 6 0, e.getD 7 0, e.getD 8 0, ⟨e.getD 9 0, e.getD 10 0, e.getD 11 0, e.getD 12 0, e.getD 13 0, e.getD 14 0, e.getD 15 0⟩⟩
def mCall (u : Int) (c : yb) : yb := ⟨c.Kind, layI u c.Addr, c.Size, c.Align, c.Value⟩
def mRep (u : Int) (r : T_api_Reply) : T_api_Reply := ⟨r.Err, layI u r.Addr, r.Size, r.Value, r.Stats⟩
theorem meant_eq {u : Int} (hu : 0 ≤ u ∧ u ≤ 100000) (c : yb) (r : T_api_Reply) : y09 u ⟨c, r⟩ = some ⟨mCall u c, mRep u r⟩ := by
  unfold y09
  rw [lay20_eq hu, Option.bind_some, lay20_eq hu, Option.bind_some]; rfl
def ActOK (e : List Int) : Prop := ∀ i, i < 16 → I64 (e.getD i 0)
theorem ActOK.crb {e : List Int} (h : ActOK e) {u : Int} (hu : 0 ≤ u ∧ u ≤ 100000) : CRB (mCall u (actC e)) (mRep u (actR e)) := by
  have b := fun i hi => (h i hi).2
  exact ⟨layI_b hu (h 1 (by omega)), b 2 (by omega), ⟨⟨b 9 (by omega), b 10 (by omega)⟩, ⟨b 11 (by omega), b 12 (by omega)⟩, b 13 (by omega)⟩⟩
theorem etaL (L : yd) : yd.mk (yc.mk L.c.Workers L.c.CPUs L.c.Pages L.c.Stripes L.c.Tries L.c.Wait L.c.Clock L.c.Private L.c.Cache L.c.Bin L.c.Batch) L.at_0 L.at_1 L.at_2 L.at_3 L.at_4 L.at_5 L.at_6 L.at_7 L.at_8 L.at_9 L.at_10 L.at_11 = L := rfl
theorem etaC (c : yc) : yc.mk c.Workers c.CPUs c.Pages c.Stripes c.Tries c.Wait c.Clock c.Private c.Cache c.Bin c.Batch = c := rfl
theorem rNew_eq {d : yc} (h : RightC d) : y0f d = some (⟨d⟩, [], List.replicate (d.Pages * 32).toNat 0) := by
  have hp := h.pages
  unfold y0f
  rw [wrap_id (by omega) (by omega), decide_eq_true (by omega), Int.mul_comm]; rfl
theorem wordA_out {L : yd} {ws : List Int} {a : Int} (h : a < L.at_10 ∨ L.at_11 ≤ a) : wordA L ws a = 0 := by
  unfold wordA; rw [if_neg (by omega)]
end Go.Rx
end

section
namespace Go.Rx
open Go.ChangeShapes Go.WideShapes Go.ChangeAt Go.RowKit
inductive AK where
  | row (tg : Nat)
  | el (tg : Nat)
def elWf (tg : Nat) (e : El tg) : Prop := ∀ k n, Value.int k n ∈ elEnc tg e → (Lit.int k n).wf = true
def elV : (tg : Nat) → El tg → V
  | 0, (n : Int) => vi n
  | 1, (b : Bool) => vb b
  | t, e => .agg ((elEnc t e).map .ext)
def ArgsOf : List AK → Nat → List V → Heap → Prop
  | [], _, ags, H => ags = [] ∧ H = []
  | .row tg :: ks, n, ags, H => ∃ (l : List (El tg)) (ags' : List V) (H' : Heap), ags = .row n :: ags' ∧ H = .row tg l true :: H' ∧ (∀ e ∈ l, elWf tg e) ∧ l.length ≤ maxLen ∧ ArgsOf ks (n + 1) ags' H'
  | .el tg :: ks, n, ags, H => ∃ (e : El tg) (ags' : List V), ags = elV tg e :: ags' ∧ elWf tg e ∧ ArgsOf ks n ags' H
def lawS (ks : List AK) : Spec where
  tr := fun args H K => ArgsOf ks 0 args H ∧ ∀ H', K (vb true) H'
section
variable {P : Program} {elT : ET}
structure ElOK (P : Program) (elT : ET) (tg : Nat) : Prop where
  cells : P.cellsOf (elT tg) = elM tg
  reads : ∀ {H : Type} (enc : TypeId × Value → H) (W : World) (base : Nat) (sp : Nat → Bool) (held : Bool) (fuel : Nat) (cs : List Value) (x : DataW H × List MemPlace),
    DataW.trod enc P W base sp held fuel (elT tg) cs = some x → ∃ e : El tg, cs = elEnc tg e ∧ elWf tg e
  value : ∀ (W : World) (r : Reach) (b : Nat) (v : Value) (e : El tg), Value.okWide P W r b (elT tg) v → v.cells.toList = elEnc tg e → ∀ ρ, (elV tg e).den ρ = some v
variable {H : Type} {enc : TypeId × Value → H} {W : World} {sp : Nat → Bool} {held : Bool}
theorem open_row {tg : Nat} (ok : ElOK P elT tg) {t : TypeId} (ht : P.underlying t = some (.slice (elT tg))) {r : Reach} {b0 : Nat} {v : Value} {d : DataW H} {ps : List MemPlace}
    (hval : Value.okWide P W r b0 t v) (hd : DataW.Trod enc P W 0 sp held t v d ps) :
    ∃ (l : List (El tg)) (F : List Nat), (∀ n ∈ F, n < W.heap.size) ∧ (∀ e ∈ l, elWf tg e) ∧ l.length ≤ maxLen ∧ (∃ a cap, v = .slice a l.length cap) ∧ ∀ ρ, (Blk.row tg l true).holds elT ρ W v F := by
  obtain ⟨a, len, cap, rfl⟩ := okWide_slice ht hval
  obtain ⟨fuel, hf⟩ := hd
  rcases Deep.open_slice ht hf with ⟨h, _⟩ | ⟨ad, len', cap', m, n, D, Pl, h, _, hl, hm, hmm, _, hx⟩
  · simp [Value.cells] at h
    obtain ⟨rfl, rfl, rfl⟩ := h
    exact ⟨[], [], by simp, by simp, Nat.zero_le _, ⟨none, 0, rfl⟩, fun ρ => ⟨none, 0, rfl, Nat.le_refl _, Nat.zero_le _, fun _ => rfl, fun j x hj => by simp [flat] at hj⟩⟩
  · simp [Value.cells] at h
    obtain ⟨rfl, rfl, rfl⟩ := h
    have hlm : len ≤ m := by rw [hmm]; split <;> omega
    have key : ∀ i, i < len → ∃ e : El tg, W.cells? 0 (ad.add (i * elM tg)) (elM tg) = some (elEnc tg e) ∧ elWf tg e := by
      intro i hi
      obtain ⟨cs', h1, h2⟩ := hx i (by omega)
      rw [ok.cells] at h1
      obtain ⟨e, he, hw⟩ := ok.reads enc W 0 sp held n cs' _ h2
      exact ⟨e, by rw [h1, he], hw⟩
    haveI : Inhabited (El tg) := ⟨elD tg⟩
    obtain ⟨E, hE⟩ := Deep.choose_lt key
    refine ⟨(List.range len).map E, if ad.block < W.heap.size then [ad.block] else [], ?_, ?_, by simp; omega, ⟨some ad, cap, by simp⟩, fun ρ => ⟨some ad, cap, by simp, by simpa using hl, hm, (fun h => by cases h), fun j x hj => ?_⟩⟩
    · intro n hn
      split at hn
      · rename_i hb; simp at hn; omega
      · simp at hn
    · intro e he
      obtain ⟨i, hi, rfl⟩ := List.mem_map.1 he
      exact (hE i (by simpa using hi)).2
    · have hjl : j < len * elM tg := by
        have := (List.getElem?_eq_some_iff.1 hj).1
        rw [flat_len] at this; simpa using this
      have hM : 0 < elM tg := by
        rcases Nat.eq_zero_or_pos (elM tg) with h | h
        · rw [h] at hjl; simp at hjl
        · exact h
      have hk : j / elM tg < len := (Nat.div_lt_iff_lt_mul hM).2 hjl
      have hr : j % elM tg < elM tg := Nat.mod_lt _ hM
      have hje : j = j / elM tg * elM tg + j % elM tg := by rw [Nat.mul_comm]; exact (Nat.div_add_mod _ _).symm
      rw [hje, flat_get tg _ _ (by simpa using hk) _ hr] at hj
      have hg : ((List.range len).map E).getD (j / elM tg) (elD tg) = E (j / elM tg) := by simp [List.getD, hk]
      rw [hg] at hj
      obtain ⟨_, _, hc⟩ := World.cells?_some (hE _ hk).1
      have := hc _ hr
      rw [hj, Deep.add_add, ← hje] at this
      refine ⟨ad, rfl, ?_, this⟩
      have hb : (ad.add j).block = ad.block := block_add ad j
      have hlt : ad.block < W.heap.size := by
        rcases Nat.lt_or_ge ad.block W.heap.size with h | h
        · exact h
        · rw [← hb] at h
          simp [World.cell?, Array.getElem?_eq_none h] at this
      simp [hlt]
def AKOK (P : Program) (elT : ET) : AK → TypeId → Prop
  | .row tg, t => P.underlying t = some (.slice (elT tg)) ∧ ElOK P elT tg
  | .el tg, t => t = elT tg ∧ ElOK P elT tg
def AKsOK (P : Program) (elT : ET) : List AK → List TypeId → Prop
  | [], [] => True
  | k :: ks, t :: ts => AKOK P elT k t ∧ AKsOK P elT ks ts
  | _, _ => False
theorem open_args : ∀ (ks : List AK) (ts : List TypeId) (vs : List Value) (ds : List (DataW H)) (ps : List MemPlace) (r : Reach) (b0 : Nat), AKsOK P elT ks ts →
    (∀ (j : Nat) t v, ts[j]? = some t → vs[j]? = some v → Value.okWide P W r b0 t v) → DataW.TrodAll enc P W 0 sp held ts vs ds ps → ∀ (ρ : List Value) (F : Nat → List Nat) (H0 : Heap), Sat elT ρ F H0 W → (∀ b ∈ H0, b.writable = false) →
    ∃ (ags : List V) (H1 : Heap) (ρ' : List Value) (F' : Nat → List Nat), ArgsOf ks ρ.length ags H1 ∧ denL ρ' ags = some vs ∧ Sat elT ρ' F' (H0 ++ H1) W ∧ (∀ b ∈ H0 ++ H1, b.writable = false) ∧ Le ρ ρ'
  | [], ts, vs, ds, ps, r, b0, hk, _, hd, ρ, F, H0, hs, hw => by
    cases ts with
    | cons t ts => exact hk.elim
    | nil =>
      obtain ⟨rfl, rfl, rfl⟩ := trodAll_nil hd
      exact ⟨[], [], ρ, F, ⟨rfl, rfl⟩, rfl, by simpa using hs, by simpa using hw, Le.refl ρ⟩
  | k :: ks, ts, vs, ds, ps, r, b0, hk, hval, hd, ρ, F, H0, hs, hw => by
    cases ts with
    | nil => exact hk.elim
    | cons t ts =>
      obtain ⟨hk1, hk2⟩ := hk
      obtain ⟨v, vs', d, ds', p, q, rfl, rfl, rfl, h1, h2⟩ := trodAll_cons hd
      have hv := hval 0 t v rfl rfl
      have hval' : ∀ (j : Nat) t v, ts[j]? = some t → vs'[j]? = some v → Value.okWide P W r b0 t v := fun j t v a b => hval (j + 1) t v (by simpa using a) (by simpa using b)
      cases k with
      | row tg =>
        obtain ⟨ht, ok⟩ := hk1
        obtain ⟨l, G, hG, hwf, hml, ⟨a, cap, hv2⟩, hh⟩ := open_row ok ht hv h1
        have hlen := hs.len
        have hs1 : Sat elT (ρ ++ [v]) (fset F H0.length G) (H0 ++ [.row tg l true]) W := by
          refine ⟨by simp [hlen], ?_, ?_, ?_⟩
          · intro i b x hb hx
            rcases push_get hb with ⟨hi, hb⟩ | ⟨rfl, rfl⟩
            · have hx' : ρ[i]? = some x := by rw [List.getElem?_append_left (by omega)] at hx; exact hx
              have e : fset F H0.length G i = F i := by unfold fset; rw [if_neg (by omega)]
              rw [e]
              exact Blk.holds_le (by intro i x h; exact List.getElem?_append_left (List.getElem?_eq_some_iff.1 h).1 ▸ h) (fun _ _ => rfl) b (hs.each i b x hb hx')
            · have hx' : x = v := by
                rw [List.getElem?_append_right (by omega)] at hx
                rw [show H0.length - ρ.length = 0 by omega] at hx
                simpa using hx.symm
              subst hx'
              have e : fset F H0.length G H0.length = G := by simp [fset]
              rw [e]
              exact hh _
          · intro i b hb n hn
            rcases push_get hb with ⟨hi, hb⟩ | ⟨rfl, rfl⟩
            · have e : fset F H0.length G i = F i := by unfold fset; rw [if_neg (by omega)]
              rw [e] at hn
              exact hs.lt i b hb n hn
            · have e : fset F H0.length G H0.length = G := by simp [fset]
              rw [e] at hn
              exact hG n hn
          · intro i j bi bj hbi hbj hij hwi
            exfalso
            have hm := List.mem_of_getElem? hbi
            rcases List.mem_append.1 hm with hm | hm
            · rw [hw bi hm] at hwi; cases hwi
            · simp at hm; subst hm; cases hwi
        have hw1 : ∀ b ∈ H0 ++ [Blk.row tg l true], b.writable = false := by
          intro b hb
          rcases List.mem_append.1 hb with hb | hb
          · exact hw b hb
          · simp at hb; subst hb; rfl
        obtain ⟨ags, H1, ρ', F', g1, g2, g3, g4, g5⟩ := open_args ks ts vs' ds' q r b0 hk2 hval' h2 _ _ _ hs1 hw1
        have hρ : ρ'[ρ.length]? = some v := g5 _ _ (by simp)
        refine ⟨.row ρ.length :: ags, .row tg l true :: H1, ρ', F', ⟨l, ags, H1, rfl, rfl, hwf, hml, by simpa using g1⟩, ?_, by simpa using g3, by simpa using g4, ?_⟩
        · have e : (V.row ρ.length).den ρ' = some v := by subst hv2; simp only [V.den, hρ]
          simp only [denL, e, g2]
        · intro i x hx
          exact g5 i x (by rw [List.getElem?_append_left (List.getElem?_eq_some_iff.1 hx).1]; exact hx)
      | el tg =>
        obtain ⟨rfl, ok⟩ := hk1
        obtain ⟨fuel, hf⟩ := h1
        obtain ⟨e, he, hwf⟩ := ok.reads enc W 0 sp held fuel _ _ hf
        obtain ⟨ags, H1, ρ', F', g1, g2, g3, g4, g5⟩ := open_args ks ts vs' ds' q r b0 hk2 hval' h2 ρ F H0 hs hw
        refine ⟨elV tg e :: ags, H1, ρ', F', ⟨e, ags, rfl, hwf, g1⟩, ?_, g3, g4, g5⟩
        simp only [denL, ok.value W r b0 v e hv he ρ', g2]
theorem trodAll_stays (hl : laidOutB P = true) {W' : World} {sp' : Nat → Bool} : ∀ {ts : List TypeId} {vs : List Value} {ds : List (DataW H)} {ps : List MemPlace}, ts.all (fun t => P.readableRec t && decide (t < P.types.size)) = true →
    DataW.TrodAll enc P W 0 (fun _ => true) true ts vs ds ps → (∀ x ∈ ps, W.sameAt W' x) → (∀ x ∈ ps, sp' x.block = true) → DataW.TrodAll enc P W' 0 sp' true ts vs ds ps
  | [], vs, ds, ps, _, h, _, _ => by
    obtain ⟨rfl, rfl, rfl⟩ := trodAll_nil h
    rfl
  | t :: ts, vs, ds, ps, hr, h, h1, h2 => by
    obtain ⟨v, vs', d, ds', p, q, rfl, rfl, rfl, g1, g2⟩ := trodAll_cons h
    simp only [List.all_cons, Bool.and_eq_true, decide_eq_true_eq] at hr
    exact ⟨p, q, WideElems.Trod_stays hl hr.1.1 hr.1.2 g1 (fun x hx => h1 x (by simp [hx])) (fun x hx => h2 x (by simp [hx])),
      trodAll_stays hl hr.2 g2 (fun x hx => h1 x (by simp [hx])) (fun x hx => h2 x (by simp [hx])), rfl⟩
theorem post_law {f : Func} {s : ChangeSpec} {apart fresh handsOn : Bool} {tb : TypeId} (hl : laidOutB P = true) (htb : P.underlying tb = some .bool) (hres : f.resultTypes = #[tb]) (hall : f.params.toList.all (fun t => P.readableRec t && decide (t < P.types.size)) = true)
    (hsv : s.vars = []) (hsp : ∀ ds : List (DataW H), ds.length = f.params.toList.length → s.fn H ds = { results := [.lit (.bool true)], args := ds })
    {W W' : World} {args : Array Value} {ds gs : List (DataW H)} {before : List MemPlace} (hW : DataW.Whole enc P f.params.toList s.vars apart W args.toList ds gs before) (hb : Below W.heap.size W W') :
    s.post enc P f apart fresh handsOn false W args (.bool true) W' := by
  have hlt : ∀ p ∈ before, p.block < W.heap.size := fun p hp => hW.lt p hp
  have hW' := hW
  obtain ⟨p, q, hA, hV, rfl, hfz, hnd⟩ := hW
  rw [hsv] at hV
  obtain ⟨rfl, rfl⟩ := trodVars_none hV
  have hlen : ∀ (ts : List TypeId) (vs : List Value) (ds : List (DataW H)) (ps : List MemPlace), DataW.TrodAll enc P W 0 (fun _ => true) true ts vs ds ps → ds.length = ts.length := by
    intro ts
    induction ts with
    | nil => intro vs ds ps h; obtain ⟨rfl, rfl, rfl⟩ := trodAll_nil h; rfl
    | cons t ts ih =>
      intro vs ds ps h
      obtain ⟨v, vs', d, ds', p, q, rfl, rfl, rfl, g1, g2⟩ := trodAll_cons h
      simp [ih _ _ _ g2]
  have hfn : s.fn H (ds ++ []) = { results := [.lit (.bool true)], args := ds } := by rw [List.append_nil]; exact hsp ds (hlen _ _ _ _ hA)
  refine ⟨ds, [], p ++ [], [], p, [], hW', ?_, ?_, ?_, hb.frame _, fun h => by cases h⟩
  · rw [hfn, hres]
    exact trodAll_mk1 (shut_bool htb true)
  · rw [hfn]
    exact trodAll_stays hl hall hA (fun x hx => hb.same (hlt x (by simpa using hx))) (fun x hx => by simpa using hlt x (by simpa using hx))
  · rw [hfn, hsv]
    rfl
theorem yg9 {f : Func} {s : ChangeSpec} {apart fresh handsOn : Bool} {tb : TypeId} {g : FuncId} {ks : List AK} (hspec : SpecOK P elT g (lawS ks)) (hk : AKsOK P elT ks f.params.toList)
    (hl : laidOutB P = true) (htb : P.underlying tb = some .bool) (hres : f.resultTypes = #[tb]) (hall : f.params.toList.all (fun t => P.readableRec t && decide (t < P.types.size)) = true)
    (hsv : s.vars = []) (hsp : ∀ ds : List (DataW H), ds.length = f.params.toList.length → s.fn H ds = { results := [.lit (.bool true)], args := ds })
    {W : World} {r : Reach} {base : Nat} {args : Array Value} {ds gs : List (DataW H)} {before : List MemPlace} (hval : ∀ (j : Nat) t v, f.params[j]? = some t → args[j]? = some v → Value.okWide P W r base t v)
    (hW : DataW.Whole enc P f.params.toList s.vars apart W args.toList ds gs before) :
    Calls P g args W fun e W' => ∃ v, e = .returned v ∧ s.post enc P f apart fresh handsOn false W args v W' := by
  have hW' := hW
  obtain ⟨p, q, hA, _⟩ := hW
  have h0 : Sat elT [] (fun _ => []) [] W := ⟨rfl, fun i b x hb => by simp at hb, fun i b hb => by simp at hb, fun i j bi bj hb => by simp at hb⟩
  obtain ⟨ags, H1, ρ, F, g1, g2, g3, g4, _⟩ := open_args ks f.params.toList args.toList ds p r base hk (fun j t v a b => hval j t v (by simpa using a) (by simpa using b)) hA [] (fun _ => []) [] h0 (by simp)
  have hc := hspec.2 ags H1 (fun v _ => v = vb true) ⟨g1, fun _ => rfl⟩ ρ F W args.toList g2 (by simpa using g3)
  rw [Array.toArray_toList] at hc
  refine hc.mono fun e W' h => ?_
  obtain ⟨v, x, ρ', F', H', rfl, rfl, hr, _, _, hfr⟩ := h
  have hx : x = .bool true := den_ext hr
  subst hx
  have hnw : ∀ (i : Nat) (b : Blk), H1[i]? = some b → b.writable = true → False := fun i b hb hw => by
    have := g4 b (by simpa using List.mem_of_getElem? hb)
    rw [this] at hw; cases hw
  have hb : Below W.heap.size W W' := ⟨hfr.os, hfr.tape, hfr.output, hfr.size, fun n hn => hfr.block n hn (fun i b hb hw => (hnw i b hb hw).elim)⟩
  exact ⟨_, rfl, post_law hl htb hres hall hsv hsp hW' hb⟩
end
def flatFs (P : Program) (rec : TypeId → Option (List Bool)) : List Field → Nat → Option (List Bool)
  | [], _ => some []
  | f :: fs, o => match rec f.type with
    | none => none
    | some a => bif Nat.beq f.offset o && Nat.beq (P.cellsOf f.type) a.length then match flatFs P rec fs (o + a.length) with
      | some b => some (a ++ b)
      | none => none
      else none
def flatK (P : Program) : Nat → TypeId → Option (List Bool)
  | 0, _ => none
  | n + 1, t => match P.underlying t with
    | some .bool => some [false]
    | some (.int .i64) => some [true]
    | some (.struct fs) => match flatFs P (flatK P n) fs.toList 0 with
      | some ks => bif Nat.beq (P.cellsOf t) ks.length then some ks else none
      | none => none
    | _ => none
def goodCell (b : Bool) (v : Option Value) : Prop := match b with
  | true => ∃ n, v = some (.int .i64 n) ∧ (Lit.int .i64 n).wf = true
  | false => ∃ c, v = some (.bool c)
section
variable {P : Program} {elT : ET} {H : Type} {enc : TypeId × Value → H} {W : World} {sp : Nat → Bool} {held : Bool}
theorem flatFs_good {rec : TypeId → Option (List Bool)} {base : Nat} {cs : List Value} (hrec : ∀ t ks fuel cs (x : DataW H × List MemPlace), rec t = some ks → DataW.trod enc P W base sp held fuel t cs = some x → cs.length = ks.length ∧ ∀ (i : Nat) (b : Bool), ks[i]? = some b → goodCell b cs[i]?) {n : Nat} :
    ∀ (fl : List Field) (o : Nat) (ks : List Bool), (∀ f ∈ fl, ∃ y, DataW.trod enc P W base sp held n f.type ((cs.drop f.offset).take (P.cellsOf f.type)) = some y) → flatFs P rec fl o = some ks → ∀ (i : Nat) (b : Bool), ks[i]? = some b → goodCell b cs[o + i]?
  | [], o, ks, _, h, i, b, hb => by simp only [flatFs, Option.some.injEq] at h; subst h; simp at hb
  | f :: fl, o, ks, hall, h, i, b, hb => by
    simp only [flatFs] at h
    split at h
    · cases h
    · rename_i a ha
      cases hc : (Nat.beq f.offset o && Nat.beq (P.cellsOf f.type) a.length) with
      | false => rw [hc] at h; cases h
      | true =>
        rw [hc] at h
        simp only [cond_true] at h
        simp only [Bool.and_eq_true] at hc
        have e1 := Nat.eq_of_beq_eq_true hc.1
        have e2 := Nat.eq_of_beq_eq_true hc.2
        split at h
        · rename_i b' hb'
          injection h with h
          subst h
          rcases Nat.lt_or_ge i a.length with hi | hi
          · rw [List.getElem?_append_left hi] at hb
            obtain ⟨y, hy⟩ := hall f (by simp)
            have hg := (hrec f.type a n _ y ha hy).2 i b hb
            rw [e1, e2, List.getElem?_take, if_pos hi, List.getElem?_drop] at hg
            exact hg
          · rw [List.getElem?_append_right hi] at hb
            have := flatFs_good hrec fl (o + a.length) b' (fun f hf => hall f (by simp [hf])) hb' (i - a.length) b hb
            rw [show o + a.length + (i - a.length) = o + i by omega] at this
            exact this
        · cases h
theorem flatK_good {base : Nat} : ∀ (n : Nat) (t : TypeId) (ks : List Bool) (fuel : Nat) (cs : List Value) (x : DataW H × List MemPlace), flatK P n t = some ks → DataW.trod enc P W base sp held fuel t cs = some x →
    cs.length = ks.length ∧ ∀ (i : Nat) (b : Bool), ks[i]? = some b → goodCell b cs[i]?
  | 0, t, ks, fuel, cs, x, h, _ => by cases h
  | n + 1, t, ks, fuel, cs, x, h, hx => by
    simp only [flatK] at h
    split at h
    · rename_i ht
      injection h with h; subst h
      obtain ⟨b, rfl, _⟩ := DataW.trod_bool ht hx
      refine ⟨rfl, fun i b' hb => ?_⟩
      cases i with
      | zero => simp at hb; subst hb; exact ⟨b, rfl⟩
      | succ i => simp at hb
    · rename_i ht
      injection h with h; subst h
      obtain ⟨m, rfl, _, hw⟩ := DataW.trod_int ht hx
      refine ⟨rfl, fun i b' hb => ?_⟩
      cases i with
      | zero => simp at hb; subst hb; exact ⟨m, rfl, hw⟩
      | succ i => simp at hb
    · rename_i fs ht
      split at h
      · rename_i ks' hks
        cases hc : Nat.beq (P.cellsOf t) ks'.length with
        | false => rw [hc] at h; cases h
        | true =>
          rw [hc] at h
          injection h with h; subst h
          obtain ⟨xs, m, _, _, hlen, hxs, hall⟩ := DataW.trod_struct ht hx
          refine ⟨by rw [hlen, Nat.eq_of_beq_eq_true hc], fun i b hb => ?_⟩
          have := flatFs_good (enc := enc) (W := W) (sp := sp) (held := held) (base := base) (cs := cs) (n := m) (fun t ks fuel cs x a b => flatK_good n t ks fuel cs x a b) fs.toList 0 ks' (fun f hf => by
            obtain ⟨k, hk⟩ := List.getElem?_of_mem hf
            rw [Array.getElem?_toList] at hk
            have h1 := hall k f hk
            have hi : k < fs.size := (Array.getElem?_eq_some_iff.1 hk).1
            rw [List.getElem?_eq_getElem (by omega)] at h1
            exact ⟨_, h1⟩) hks i b hb
          rwa [Nat.zero_add] at this
      · cases h
    · cases h
theorem elOK_int (ht : P.underlying (elT 0) = some (.int .i64)) (hc : P.cellsOf (elT 0) = 1) : ElOK P elT 0 := by
  refine ⟨hc, fun enc W base sp held fuel cs x h => ?_, fun W r b v e hv hcs ρ => ?_⟩
  · obtain ⟨n, rfl, _, hw⟩ := DataW.trod_int ht h
    refine ⟨n, rfl, fun k m hm => ?_⟩
    simp [elEnc, i64] at hm
    obtain ⟨rfl, rfl⟩ := hm
    exact hw
  · simp only [Value.okWide, ht, Cell.okWide] at hv
    have hcs' : v.cells.toList = [.int .i64 e] := hcs
    show some (Value.int .i64 e) = some v
    cases v <;> simp_all [Cell.ok, Value.cells]
theorem struct_value {tg : Nat} {e : El tg} {fs : Array Field} {W : World} {r : Reach} {b : Nat} {v : Value} (ht : P.underlying (elT tg) = some (.struct fs)) (hv : Value.okWide P W r b (elT tg) v) (hcs : v.cells.toList = elEnc tg e) (ρ : List Value) :
    (V.agg ((elEnc tg e).map .ext)).den ρ = some v := by
  obtain ⟨cs, rfl, _⟩ := okWide_struct ht hv
  simp only [Value.cells] at hcs
  simp only [V.den, denL_ext]
  rw [← hcs]
end
end Go.Rx
end

section
namespace Go.Rx
open Go.ChangeShapes Go.WideShapes
theorem elOK_ints {P : Program} {elT : ET} {fs : Array Field} {m : Nat} (ht : P.underlying (elT (m + 4)) = some (.struct fs)) (hc : P.cellsOf (elT (m + 4)) = m % 32 + 1)
    (hf : flatK P 6 (elT (m + 4)) = some (List.replicate (m % 32 + 1) true)) : ElOK P elT (m + 4) := by
  refine ⟨hc, fun enc W base sp held fuel cs x h => ?_, fun W r b v e hv hcs ρ => struct_value ht hv hcs ρ⟩
  obtain ⟨hlen, hg⟩ := flatK_good 6 (elT (m + 4)) _ fuel cs x hf h
  rw [List.length_replicate] at hlen
  have hI : ∀ i, i < m % 32 + 1 → ∃ n, cs[i]? = some (.int .i64 n) ∧ (Lit.int .i64 n).wf = true := fun i hi => hg i true (by rw [List.getElem?_replicate, if_pos hi])
  obtain ⟨N, hN⟩ := Deep.choose_lt hI
  have hget : ∀ i, i < m % 32 + 1 → ((List.range (m % 32 + 1)).map N).getD i 0 = N i := fun i hi => by simp [List.getD, hi]
  have hcs : cs = elEnc (m + 4) ((List.range (m % 32 + 1)).map N : List Int) := by
    show cs = (List.range (m % 32 + 1)).map fun i => i64 (((List.range (m % 32 + 1)).map N).getD i 0)
    apply List.ext_getElem?
    intro i
    rcases Nat.lt_or_ge i (m % 32 + 1) with hi | hi
    · rw [(hN i hi).1, List.getElem?_map, List.getElem?_range hi, Option.map_some, hget i hi]
    · rw [List.getElem?_eq_none (by omega), List.getElem?_eq_none (by simpa using hi)]
  refine ⟨_, hcs, fun k n hm => ?_⟩
  have hm' : Value.int k n ∈ cs := by rw [hcs]; exact hm
  obtain ⟨i, hi⟩ := List.getElem?_of_mem hm'
  have hil : i < m % 32 + 1 := by rw [← hlen]; exact (List.getElem?_eq_some_iff.1 hi).1
  obtain ⟨h1, h2⟩ := hN i hil
  rw [h1] at hi
  injection hi with hi
  injection hi with e1 e2
  subst e1; subst e2
  exact h2
end Go.Rx
end

section
namespace Go.Rx
open Go.Proofs
noncomputable def y0i (c : yc) : Option (Int × yd × (List Int) × (List (List Int))) := (y1p c).bind fun x => bif x.1 then some x.2 else none
abbrev Y9 := yc → Option (Int × yd × (List Int) × (List (List Int)))
def y7r (m_ : Y9) (args : List V) (H : Heap) (K : V → Heap → Prop) : Prop :=
  aC args fun a0 r => aN r <| aAgg a0 fun c0 => y32 c0 fun c => aN H <| So (m_ c) fun x => K (.tup [.ptr 0 0, vi (x.1)]) [.cells 0 (yk (x.2.1) ++ [.ptr 1 0, .row 2]), .cells 0 [.row 3], .row 0 (x.2.2.1) false, .row 70 (x.2.2.2) false]
def ya4 (m_ : Y9) : Spec := ⟨y7r m_, (true : Bool)⟩
theorem yd2 : SpecOK Try.prog elTT 10 (ya4 y0i) := spec_mono (fun args H K h => by
  change y7r y0i args H K at h
  unfold y7r at h
  repeat first | (obtain ⟨_, h⟩ := h) | replace h := Des.el h
  subst_vars
  rename_i c
  show So (y1p c) _
  unfold y0i at h
  revert h
  cases y1p c with
  | none => exact fun h => h
  | some x =>
    obtain ⟨a, y⟩ := x
    cases a with
    | true => exact fun h => h
    | false => exact fun h => h.elim) ybu
end Go.Rx
end

section
namespace Go.Rx
open Go.Proofs
set_option maxRecDepth 100000
set_option maxHeartbeats 4000000
attribute [local irreducible] Loop ex exF contK roundK retK at_ bodyOf mkEnv exFW retW
end Go.Rx
end

noncomputable section
namespace Go.Rx
open Go.Proofs
set_option maxRecDepth 100000
set_option maxHeartbeats 4000000
def y5f (m_ : yc → Int → (List (List Int)) → Option Bool) (args : List V) (H : Heap) (K : V → Heap → Prop) : Prop :=
  aC args fun a0 r => aC r fun a1 r => aC r fun a2 r => aN r <| aAgg a0 fun c0 => y32 c0 fun c => aRow 0 a1 <| aInt a2 fun a => aC H fun b0 r => aN r <| bRow 19 true b0 fun (acts : List (List Int)) => So (m_ c a acts) fun x => K (vb x) [.row 19 acts true]
def yf7 (m_ : yc → Int → (List (List Int)) → Option Bool) : Spec := ⟨y5f m_, (true : Bool)⟩
def y0z (y08 : Option Bool) (y00 : Y18) (y0i : Y9) (y0f : Y6) (yj : Y0) (yy : Y3) (y09 : Y19) (y03 : Y12) (yz : yb → T_api_Reply → yd → (List Int) → (List (List Int)) → Option (Bool × (List (List Int)) × (List Int))) (y0d : yb → T_api_Reply → T_assartref02_Layout → (List (List Int)) → (List Int) → Option (Bool × (List (List Int)) × (List Int))) (y0j : Option (List Pr)) (y0b : yd → (List Int) → (List (List Int)) → Option (List Pr)) (y0e : T_assartref02_Layout → (List (List Int)) → (List Int) → Option (List Pr)) (y0g : Y13) (yx : Y1) (yr : Int → yd → (List Int) → (List (List Int)) → Option Int) (yw : Y7) (yq : Int → yd → (List Int) → (List (List Int)) → Option (Int × Int × Bool)) : Cfg := { cfgB with
  sigs := (sigC 8 (yat y08) (sigC 9 (y5c y00) (sigC 10 (ya4 y0i) (sigC 11 (y8w y0f) (sigC 12 (y35 yj) (sigC 13 (y73 yy) (sigC 14 (yaj y09) (sigC 15 (altNil (y4x yz) (y5w y03)) (sigC 16 (y8z y0d) (sigC 17 (altNil (yaa y0b) (yak y0j)) (sigC 19 (yac y0e) (sigC 18 (y8i y0g) (sigC 20 (altNil (y4l yr) (y46 yx)) (sigC 21 (altNil (y3v yq) (y40 yw)) sigN)))))))))))))),
  keep := fun r => match r with | 9 => some [(1, some 19), (2, none), (7, none), (8, none), (9, none), (10, none), (11, none)] | 16 => some [(2, none), (7, none), (8, none), (9, none), (10, none), (13, none), (14, none)] | 23 => some [(2, none), (7, none), (8, none), (9, none), (10, none), (13, none), (15, none), (16, none), (17, none), (18, none)] | _ => none,
  plan := fun r => match r with | 12 => some ([0, 1, 2, 3, 4, 6, 7, 8, 9, 10, 5, 11, 12, 13, 14, 16, 15, 17, 18, 19, 20], 4) | 18 => some ([0, 1, 3, 4, 5, 6, 7, 8, 9, 2, 10], 0) | _ => none }
theorem yev (y08 : Option Bool) (y00 : Y18) (y0i : Y9) (y0f : Y6) (yj : Y0) (yy : Y3) (y09 : Y19) (y03 : Y12) (yz : yb → T_api_Reply → yd → (List Int) → (List (List Int)) → Option (Bool × (List (List Int)) × (List Int))) (y0d : yb → T_api_Reply → T_assartref02_Layout → (List (List Int)) → (List Int) → Option (Bool × (List (List Int)) × (List Int))) (y0j : Option (List Pr)) (y0b : yd → (List Int) → (List (List Int)) → Option (List Pr)) (y0e : T_assartref02_Layout → (List (List Int)) → (List Int) → Option (List Pr)) (y0g : Y13) (yx : Y1) (yr : Int → yd → (List Int) → (List (List Int)) → Option Int) (yw : Y7) (yq : Int → yd → (List Int) → (List (List Int)) → Option (Int × Int × Bool)) (c : yc) (a : Int) (acts : List (List Int)) (a2 e : Int) (user atv : Int) (xv n : Int) (ok : Bool) (iv c2 : Int) (c3 c4 : Int) (c5 c6 : Int) (c7 c8 : Int) (c9 c10 : Int) (c11 c12 : Int) (c13 c14 : Int) (c15 c16 : Int) (c17 c18 : Int) (c19 c20 : Int) (c21 c22 : Int) (c23 c24 : Int) (c25 c26 : Int) (c27 c28 : Int) (c29 c30 : Int) (c31 c32 : Int) (c33 c34 c35 : Int) (w : List Int) (w2 : List (List Int)) (w3 : List Int) (w4 : List (List Int)) (K : V → Heap → Prop) (J1 : Env → Heap → Prop) : (ex (y0z y08 y00 y0i y0f yj yy y09 y03 yz y0d y0j y0b y0e y0g yx yr yw yq) (⟨167, 1⟩ : Cx) (at_ (bodyOf Try.f3) [1, 1, 1, 1, 1, 1, 1, 1, 1, 1, 1, 0, 1, 0, 0]) (mkEnv [(2, vi a2), (7, .ptr 1 0), (8, vi e), (9, .ptr 2 0), (10, vi user), (13, vi atv), (15, vi xv), (16, vi n), (17, vb ok), (18, vi iv)]) [.row 19 acts true, .cells 0 [vi c2, vi c3, vi c4, vi c5, vi c6, vi c7, vi c8, vi c9, vi c10, vi c11, vi c12, vi c13, vi c14, vi c15, vi c16, vi c17, vi c18, vi c19, vi c20, vi c21, vi c22, vi c23, vi c24, .ptr 3 0, .row 4], .cells 0 [vi c25, vi c26, vi c27, vi c28, vi c29, vi c30, vi c31, vi c32, vi c33, vi c34, vi c35, .row 5, .row 6], .cells 0 [.row 7], .row 0 w false, .row 6 w2 false, .row 0 w3 false, .row 70 w4 false] (roundK (y0z y08 y00 y0i y0f yj yy y09 y03 yz y0d y0j y0b y0e y0g yx yr yw yq) (⟨167, 1⟩ : Cx) (at_ (bodyOf Try.f3) [1, 1, 1, 1, 1, 1, 1, 1, 1, 1, 1, 0, 1, 0, 0]) (contK (y0z y08 y00 y0i y0f yj yy y09 y03 yz y0d y0j y0b y0e y0g yx yr yw yq) (⟨167, 1⟩ : Cx) (bodyOf Try.f3) [1, 1, 1, 1, 1, 1, 1, 1, 1, 1, 1, 0, 1, 0] (retK (y0z y08 y00 y0i y0f yj yy y09 y03 yz y0d y0j y0b y0e y0g yx yr yw yq) Try.f3 1 K)) J1)) = (
    br (decide (iv < (↑w2.length : Int))) (Req (inR iv w2.length) (Req (inR (offs iv 0) w2.length) (br (decide (a2 ≥ List.getD (w2.getD (Int.toNat (offs iv (0 : Nat))) (List.replicate (3 : Nat) (0 : Int))) (0 : Nat) (0 : Int))) (br (decide (a2 < IntKind.i64.wrap (List.getD (w2.getD (Int.toNat (offs iv (0 : Nat))) (List.replicate (3 : Nat) (0 : Int))) (0 : Nat) (0 : Int) + List.getD (w2.getD (Int.toNat (offs iv (0 : Nat))) (List.replicate (3 : Nat) (0 : Int))) (2 : Nat) (0 : Int)))) (br (!ok) (K (vb false) [.row 19 acts true]) (br (xv != List.getD (w2.getD (Int.toNat (offs iv (0 : Nat))) (List.replicate (3 : Nat) (0 : Int))) (0 : Nat) (0 : Int)) (K (vb false) [.row 19 acts true]) (br (n != List.getD (w2.getD (Int.toNat (offs iv (0 : Nat))) (List.replicate (3 : Nat) (0 : Int))) (2 : Nat) (0 : Int)) (K (vb false) [.row 19 acts true]) (J1 (mkEnv [(2, vi a2), (7, .ptr 1 0), (8, vi e), (9, .ptr 2 0), (10, vi user), (13, vi atv), (15, vi xv), (16, vi n), (17, vb ok), (18, vi (IntKind.i64.wrap (iv + 1)))]) [.row 19 acts true, .cells 0 [vi c2, vi c3, vi c4, vi c5, vi c6, vi c7, vi c8, vi c9, vi c10, vi c11, vi c12, vi c13, vi c14, vi c15, vi c16, vi c17, vi c18, vi c19, vi c20, vi c21, vi c22, vi c23, vi c24, .ptr 3 0, .row 4], .cells 0 [vi c25, vi c26, vi c27, vi c28, vi c29, vi c30, vi c31, vi c32, vi c33, vi c34, vi c35, .row 5, .row 6], .cells 0 [.row 7], .row 0 w false, .row 6 w2 false, .row 0 w3 false, .row 70 w4 false])))) (J1 (mkEnv [(2, vi a2), (7, .ptr 1 0), (8, vi e), (9, .ptr 2 0), (10, vi user), (13, vi atv), (15, vi xv), (16, vi n), (17, vb ok), (18, vi (IntKind.i64.wrap (iv + 1)))]) [.row 19 acts true, .cells 0 [vi c2, vi c3, vi c4, vi c5, vi c6, vi c7, vi c8, vi c9, vi c10, vi c11, vi c12, vi c13, vi c14, vi c15, vi c16, vi c17, vi c18, vi c19, vi c20, vi c21, vi c22, vi c23, vi c24, .ptr 3 0, .row 4], .cells 0 [vi c25, vi c26, vi c27, vi c28, vi c29, vi c30, vi c31, vi c32, vi c33, vi c34, vi c35, .row 5, .row 6], .cells 0 [.row 7], .row 0 w false, .row 6 w2 false, .row 0 w3 false, .row 70 w4 false])) (J1 (mkEnv [(2, vi a2), (7, .ptr 1 0), (8, vi e), (9, .ptr 2 0), (10, vi user), (13, vi atv), (15, vi xv), (16, vi n), (17, vb ok), (18, vi (IntKind.i64.wrap (iv + 1)))]) [.row 19 acts true, .cells 0 [vi c2, vi c3, vi c4, vi c5, vi c6, vi c7, vi c8, vi c9, vi c10, vi c11, vi c12, vi c13, vi c14, vi c15, vi c16, vi c17, vi c18, vi c19, vi c20, vi c21, vi c22, vi c23, vi c24, .ptr 3 0, .row 4], .cells 0 [vi c25, vi c26, vi c27, vi c28, vi c29, vi c30, vi c31, vi c32, vi c33, vi c34, vi c35, .row 5, .row 6], .cells 0 [.row 7], .row 0 w false, .row 6 w2 false, .row 0 w3 false, .row 70 w4 false])))) (br (e == 0) (So (yr (IntKind.i64.wrap (user - 1)) (yd.mk (yc.mk c2 c3 c4 c5 c6 c7 c8 c9 c10 c11 c12) c13 c14 c15 c16 c17 c18 c19 c20 c21 c22 c23 c24) w w4) (fun (y0 : Int) => (br (y0 == 0) (So (yr atv (yd.mk (yc.mk c2 c3 c4 c5 c6 c7 c8 c9 c10 c11 c12) c13 c14 c15 c16 c17 c18 c19 c20 c21 c22 c23 c24) w w4) (fun (y1 : Int) => (br (y1 == 0) (So y08 (fun (y2 : Bool) => (K (vb y2) [.row 19 acts true]))) (K (vb false) [.row 19 acts true])))) (K (vb false) [.row 19 acts true])))) (K (vb false) [.row 19 acts true]))) := by kernel_rfl
theorem yg0 (y08 : Option Bool) (y00 : Y18) (y0i : Y9) (y0f : Y6) (yj : Y0) (yy : Y3) (y09 : Y19) (y03 : Y12) (yz : yb → T_api_Reply → yd → (List Int) → (List (List Int)) → Option (Bool × (List (List Int)) × (List Int))) (y0d : yb → T_api_Reply → T_assartref02_Layout → (List (List Int)) → (List Int) → Option (Bool × (List (List Int)) × (List Int))) (y0j : Option (List Pr)) (y0b : yd → (List Int) → (List (List Int)) → Option (List Pr)) (y0e : T_assartref02_Layout → (List (List Int)) → (List Int) → Option (List Pr)) (y0g : Y13) (yx : Y1) (yr : Int → yd → (List Int) → (List (List Int)) → Option Int) (yw : Y7) (yq : Int → yd → (List Int) → (List (List Int)) → Option (Int × Int × Bool)) (c : yc) (a : Int) (acts : List (List Int)) (a2 e : Int) (user atv : Int) (iv c2 : Int) (c3 c4 : Int) (c5 c6 : Int) (c7 c8 : Int) (c9 c10 : Int) (c11 c12 : Int) (c13 c14 : Int) (c15 c16 : Int) (c17 c18 : Int) (c19 c20 : Int) (c21 c22 : Int) (c23 c24 : Int) (c25 c26 : Int) (c27 c28 : Int) (c29 c30 : Int) (c31 c32 : Int) (c33 c34 c35 : Int) (w : List Int) (w2 : List (List Int)) (w3 : List Int) (w4 : List (List Int)) (K : V → Heap → Prop) (J1 : Env → Heap → Prop) : (ex (y0z y08 y00 y0i y0f yj yy y09 y03 yz y0d y0j y0b y0e y0g yx yr yw yq) (⟨167, 1⟩ : Cx) (at_ (bodyOf Try.f3) [1, 1, 1, 1, 1, 1, 1, 1, 1, 0, 1, 0, 0]) (mkEnv [(2, vi a2), (7, .ptr 1 0), (8, vi e), (9, .ptr 2 0), (10, vi user), (13, vi atv), (14, vi iv)]) [.row 19 acts true, .cells 0 [vi c2, vi c3, vi c4, vi c5, vi c6, vi c7, vi c8, vi c9, vi c10, vi c11, vi c12, vi c13, vi c14, vi c15, vi c16, vi c17, vi c18, vi c19, vi c20, vi c21, vi c22, vi c23, vi c24, .ptr 3 0, .row 4], .cells 0 [vi c25, vi c26, vi c27, vi c28, vi c29, vi c30, vi c31, vi c32, vi c33, vi c34, vi c35, .row 5, .row 6], .cells 0 [.row 7], .row 0 w false, .row 6 w2 false, .row 0 w3 false, .row 70 w4 false] (roundK (y0z y08 y00 y0i y0f yj yy y09 y03 yz y0d y0j y0b y0e y0g yx yr yw yq) (⟨167, 1⟩ : Cx) (at_ (bodyOf Try.f3) [1, 1, 1, 1, 1, 1, 1, 1, 1, 0, 1, 0, 0]) (contK (y0z y08 y00 y0i y0f yj yy y09 y03 yz y0d y0j y0b y0e y0g yx yr yw yq) (⟨167, 1⟩ : Cx) (bodyOf Try.f3) [1, 1, 1, 1, 1, 1, 1, 1, 1, 0, 1, 0] (retK (y0z y08 y00 y0i y0f yj yy y09 y03 yz y0d y0j y0b y0e y0g yx yr yw yq) Try.f3 1 K)) J1)) = (
    br (decide (iv < (↑w3.length : Int))) (Req (inR iv w3.length) (Req (inR (offs iv 0) w3.length) (So (yr atv (yd.mk (yc.mk c2 c3 c4 c5 c6 c7 c8 c9 c10 c11 c12) c13 c14 c15 c16 c17 c18 c19 c20 c21 c22 c23 c24) w w4) (fun (y0 : Int) => (br (y0 != w3.getD (offs iv 0).toNat 0) (K (vb false) [.row 19 acts true]) (J1 (mkEnv [(2, vi a2), (7, .ptr 1 0), (8, vi e), (9, .ptr 2 0), (10, vi user), (13, vi (IntKind.i64.wrap (atv + 1))), (14, vi (IntKind.i64.wrap (iv + 1)))]) [.row 19 acts true, .cells 0 [vi c2, vi c3, vi c4, vi c5, vi c6, vi c7, vi c8, vi c9, vi c10, vi c11, vi c12, vi c13, vi c14, vi c15, vi c16, vi c17, vi c18, vi c19, vi c20, vi c21, vi c22, vi c23, vi c24, .ptr 3 0, .row 4], .cells 0 [vi c25, vi c26, vi c27, vi c28, vi c29, vi c30, vi c31, vi c32, vi c33, vi c34, vi c35, .row 5, .row 6], .cells 0 [.row 7], .row 0 w false, .row 6 w2 false, .row 0 w3 false, .row 70 w4 false])))))) (So (yq a2 (yd.mk (yc.mk c2 c3 c4 c5 c6 c7 c8 c9 c10 c11 c12) c13 c14 c15 c16 c17 c18 c19 c20 c21 c22 c23 c24) w w4) (fun (y1 : Int × Int × Bool) => (Loop (y0z y08 y00 y0i y0f yj yy y09 y03 yz y0d y0j y0b y0e y0g yx yr yw yq) (⟨167, 1⟩ : Cx) (at_ (bodyOf Try.f3) [1, 1, 1, 1, 1, 1, 1, 1, 1, 1, 1, 0, 1, 0, 0]) (mkEnv [(2, vi a2), (7, .ptr 1 0), (8, vi e), (9, .ptr 2 0), (10, vi user), (13, vi atv), (15, vi y1.1), (16, vi y1.2.1), (17, vb y1.2.2), (18, vi 0)]) [.row 19 acts true, .cells 0 [vi c2, vi c3, vi c4, vi c5, vi c6, vi c7, vi c8, vi c9, vi c10, vi c11, vi c12, vi c13, vi c14, vi c15, vi c16, vi c17, vi c18, vi c19, vi c20, vi c21, vi c22, vi c23, vi c24, .ptr 3 0, .row 4], .cells 0 [vi c25, vi c26, vi c27, vi c28, vi c29, vi c30, vi c31, vi c32, vi c33, vi c34, vi c35, .row 5, .row 6], .cells 0 [.row 7], .row 0 w false, .row 6 w2 false, .row 0 w3 false, .row 70 w4 false] (contK (y0z y08 y00 y0i y0f yj yy y09 y03 yz y0d y0j y0b y0e y0g yx yr yw yq) (⟨167, 1⟩ : Cx) (bodyOf Try.f3) [1, 1, 1, 1, 1, 1, 1, 1, 1, 1, 1, 0, 1, 0] (retK (y0z y08 y00 y0i y0f yj yy y09 y03 yz y0d y0j y0b y0e y0g yx yr yw yq) Try.f3 1 K)))))) := by kernel_rfl
theorem yfe (y08 : Option Bool) (y00 : Y18) (y0i : Y9) (y0f : Y6) (yj : Y0) (yy : Y3) (y09 : Y19) (y03 : Y12) (yz : yb → T_api_Reply → yd → (List Int) → (List (List Int)) → Option (Bool × (List (List Int)) × (List Int))) (y0d : yb → T_api_Reply → T_assartref02_Layout → (List (List Int)) → (List Int) → Option (Bool × (List (List Int)) × (List Int))) (y0j : Option (List Pr)) (y0b : yd → (List Int) → (List (List Int)) → Option (List Pr)) (y0e : T_assartref02_Layout → (List (List Int)) → (List Int) → Option (List Pr)) (y0g : Y13) (yx : Y1) (yr : Int → yd → (List Int) → (List (List Int)) → Option Int) (yw : Y7) (yq : Int → yd → (List Int) → (List (List Int)) → Option (Int × Int × Bool)) (c : yc) (a : Int) (acts : List (List Int)) (a2 e : Int) (user iv : Int) (c2 c3 : Int) (c4 c5 : Int) (c6 c7 : Int) (c8 c9 : Int) (c10 c11 : Int) (c12 c13 : Int) (c14 c15 : Int) (c16 c17 : Int) (c18 c19 : Int) (c20 c21 : Int) (c22 c23 : Int) (c24 c25 : Int) (c26 c27 : Int) (c28 c29 : Int) (c30 c31 : Int) (c32 c33 : Int) (c34 c35 : Int) (w : List Int) (w2 : List (List Int)) (w3 : List Int) (w4 : List (List Int)) (K : V → Heap → Prop) (J1 : Env → Heap → Prop) : (ex (y0z y08 y00 y0i y0f yj yy y09 y03 yz y0d y0j y0b y0e y0g yx yr yw yq) (⟨167, 1⟩ : Cx) (at_ (bodyOf Try.f3) [1, 1, 1, 1, 1, 1, 1, 0, 1, 0, 0]) (mkEnv [(1, .row 0), (2, vi a2), (7, .ptr 1 0), (8, vi e), (9, .ptr 2 0), (10, vi user), (11, vi iv)]) [.row 19 acts true, .cells 0 [vi c2, vi c3, vi c4, vi c5, vi c6, vi c7, vi c8, vi c9, vi c10, vi c11, vi c12, vi c13, vi c14, vi c15, vi c16, vi c17, vi c18, vi c19, vi c20, vi c21, vi c22, vi c23, vi c24, .ptr 3 0, .row 4], .cells 0 [vi c25, vi c26, vi c27, vi c28, vi c29, vi c30, vi c31, vi c32, vi c33, vi c34, vi c35, .row 5, .row 6], .cells 0 [.row 7], .row 0 w false, .row 6 w2 false, .row 0 w3 false, .row 70 w4 false] (roundK (y0z y08 y00 y0i y0f yj yy y09 y03 yz y0d y0j y0b y0e y0g yx yr yw yq) (⟨167, 1⟩ : Cx) (at_ (bodyOf Try.f3) [1, 1, 1, 1, 1, 1, 1, 0, 1, 0, 0]) (contK (y0z y08 y00 y0i y0f yj yy y09 y03 yz y0d y0j y0b y0e y0g yx yr yw yq) (⟨167, 1⟩ : Cx) (bodyOf Try.f3) [1, 1, 1, 1, 1, 1, 1, 0, 1, 0] (retK (y0z y08 y00 y0i y0f yj yy y09 y03 yz y0d y0j y0b y0e y0g yx yr yw yq) Try.f3 1 K)) J1)) = (
    br (decide (iv < (↑acts.length : Int))) (Req (inR iv acts.length) (Req (inR (offs iv 0) acts.length) (So (y09 user (y06.mk (yb.mk (List.getD (acts.getD (Int.toNat (offs iv (0 : Nat))) (List.replicate (16 : Nat) (0 : Int))) (0 : Nat) (0 : Int)) (List.getD (acts.getD (Int.toNat (offs iv (0 : Nat))) (List.replicate (16 : Nat) (0 : Int))) (1 : Nat) (0 : Int)) (List.getD (acts.getD (Int.toNat (offs iv (0 : Nat))) (List.replicate (16 : Nat) (0 : Int))) (2 : Nat) (0 : Int)) (List.getD (acts.getD (Int.toNat (offs iv (0 : Nat))) (List.replicate (16 : Nat) (0 : Int))) (3 : Nat) (0 : Int)) (List.getD (acts.getD (Int.toNat (offs iv (0 : Nat))) (List.replicate (16 : Nat) (0 : Int))) (4 : Nat) (0 : Int))) (T_api_Reply.mk (List.getD (acts.getD (Int.toNat (offs iv (0 : Nat))) (List.replicate (16 : Nat) (0 : Int))) (5 : Nat) (0 : Int)) (List.getD (acts.getD (Int.toNat (offs iv (0 : Nat))) (List.replicate (16 : Nat) (0 : Int))) (6 : Nat) (0 : Int)) (List.getD (acts.getD (Int.toNat (offs iv (0 : Nat))) (List.replicate (16 : Nat) (0 : Int))) (7 : Nat) (0 : Int)) (List.getD (acts.getD (Int.toNat (offs iv (0 : Nat))) (List.replicate (16 : Nat) (0 : Int))) (8 : Nat) (0 : Int)) (ya.mk (List.getD (acts.getD (Int.toNat (offs iv (0 : Nat))) (List.replicate (16 : Nat) (0 : Int))) (9 : Nat) (0 : Int)) (List.getD (acts.getD (Int.toNat (offs iv (0 : Nat))) (List.replicate (16 : Nat) (0 : Int))) (10 : Nat) (0 : Int)) (List.getD (acts.getD (Int.toNat (offs iv (0 : Nat))) (List.replicate (16 : Nat) (0 : Int))) (11 : Nat) (0 : Int)) (List.getD (acts.getD (Int.toNat (offs iv (0 : Nat))) (List.replicate (16 : Nat) (0 : Int))) (12 : Nat) (0 : Int)) (List.getD (acts.getD (Int.toNat (offs iv (0 : Nat))) (List.replicate (16 : Nat) (0 : Int))) (13 : Nat) (0 : Int)) (List.getD (acts.getD (Int.toNat (offs iv (0 : Nat))) (List.replicate (16 : Nat) (0 : Int))) (14 : Nat) (0 : Int)) (List.getD (acts.getD (Int.toNat (offs iv (0 : Nat))) (List.replicate (16 : Nat) (0 : Int))) (15 : Nat) (0 : Int)))))) (fun (y0 : y06) => (So (yz y0.Call y0.Reply (yd.mk (yc.mk c2 c3 c4 c5 c6 c7 c8 c9 c10 c11 c12) c13 c14 c15 c16 c17 c18 c19 c20 c21 c22 c23 c24) w w4) (fun (y1 : Bool × List (List Int) × List Int) => (So (y0d y0.Call y0.Reply (T_assartref02_Layout.mk (yc.mk c25 c26 c27 c28 c29 c30 c31 c32 c33 c34 c35)) w2 w3) (fun (y2 : Bool × List (List Int) × List Int) => (br (!y1.1 == y2.1) (K (vb false) [.row 19 acts true]) (So (y0b (yd.mk (yc.mk c2 c3 c4 c5 c6 c7 c8 c9 c10 c11 c12) c13 c14 c15 c16 c17 c18 c19 c20 c21 c22 c23 c24) y1.2.2 y1.2.1) (fun (y3 : List Pr) => (So (y0e (T_assartref02_Layout.mk (yc.mk c25 c26 c27 c28 c29 c30 c31 c32 c33 c34 c35)) y2.2.1 y2.2.2) (fun (y4 : List Pr) => (So (y0g y3 y4) (fun (y5 : Bool) => (br (!y5) (K (vb false) [.row 19 acts true]) (J1 (mkEnv [(1, .row 0), (2, vi a2), (7, .ptr 1 0), (8, vi e), (9, .ptr 2 0), (10, vi user), (11, vi (IntKind.i64.wrap (iv + 1)))]) [.row 19 acts true, .cells 0 [vi c2, vi c3, vi c4, vi c5, vi c6, vi c7, vi c8, vi c9, vi c10, vi c11, vi c12, vi c13, vi c14, vi c15, vi c16, vi c17, vi c18, vi c19, vi c20, vi c21, vi c22, vi c23, vi c24, .ptr 3 0, .row 4], .cells 0 [vi c25, vi c26, vi c27, vi c28, vi c29, vi c30, vi c31, vi c32, vi c33, vi c34, vi c35, .row 5, .row 6], .cells 0 [.row 7], .row 0 (y1.2.2 : List Int) false, .row 6 (y2.2.1 : List (List Int)) false, .row 0 (y2.2.2 : List Int) false, .row 70 (y1.2.1 : List (List Int)) false]))))))))))))))))) (Loop (y0z y08 y00 y0i y0f yj yy y09 y03 yz y0d y0j y0b y0e y0g yx yr yw yq) (⟨167, 1⟩ : Cx) (at_ (bodyOf Try.f3) [1, 1, 1, 1, 1, 1, 1, 1, 1, 0, 1, 0, 0]) (mkEnv [(2, vi a2), (7, .ptr 1 0), (8, vi e), (9, .ptr 2 0), (10, vi user), (13, vi user), (14, vi 0)]) [.row 19 acts true, .cells 0 [vi c2, vi c3, vi c4, vi c5, vi c6, vi c7, vi c8, vi c9, vi c10, vi c11, vi c12, vi c13, vi c14, vi c15, vi c16, vi c17, vi c18, vi c19, vi c20, vi c21, vi c22, vi c23, vi c24, .ptr 3 0, .row 4], .cells 0 [vi c25, vi c26, vi c27, vi c28, vi c29, vi c30, vi c31, vi c32, vi c33, vi c34, vi c35, .row 5, .row 6], .cells 0 [.row 7], .row 0 w false, .row 6 w2 false, .row 0 w3 false, .row 70 w4 false] (contK (y0z y08 y00 y0i y0f yj yy y09 y03 yz y0d y0j y0b y0e y0g yx yr yw yq) (⟨167, 1⟩ : Cx) (bodyOf Try.f3) [1, 1, 1, 1, 1, 1, 1, 1, 1, 0, 1, 0] (retK (y0z y08 y00 y0i y0f yj yy y09 y03 yz y0d y0j y0b y0e y0g yx yr yw yq) Try.f3 1 K)))) := by kernel_rfl
theorem yfu (y08 : Option Bool) (y00 : Y18) (y0i : Y9) (y0f : Y6) (yj : Y0) (yy : Y3) (y09 : Y19) (y03 : Y12) (yz : yb → T_api_Reply → yd → (List Int) → (List (List Int)) → Option (Bool × (List (List Int)) × (List Int))) (y0d : yb → T_api_Reply → T_assartref02_Layout → (List (List Int)) → (List Int) → Option (Bool × (List (List Int)) × (List Int))) (y0j : Option (List Pr)) (y0b : yd → (List Int) → (List (List Int)) → Option (List Pr)) (y0e : T_assartref02_Layout → (List (List Int)) → (List Int) → Option (List Pr)) (y0g : Y13) (yx : Y1) (yr : Int → yd → (List Int) → (List (List Int)) → Option Int) (yw : Y7) (yq : Int → yd → (List Int) → (List (List Int)) → Option (Int × Int × Bool)) (c : yc) (a : Int) (acts : List (List Int)) (K : V → Heap → Prop) : (exF (y0z y08 y00 y0i y0f yj yy y09 y03 yz y0d y0j y0b y0e y0g yx yr yw yq) Try.f3 [.agg (yl c), .row 0, vi a] [.row 19 acts true] K) = (
    br (decide ((↑acts.length : Int) > 80)) (So y08 (fun (y0 : Bool) => (K (vb y0) [.row 19 acts true]))) (So (y00 c) (fun (y1 : yc) => (So (y0i y1) (fun (y2 : Int × yd × List Int × List (List Int)) => (So (y0f y1) (fun (y3 : T_assartref02_Layout × List (List Int) × List Int) => (So (yj y3.1) (fun (y4 : Int) => (So (yy y4 a) (fun (y5 : Int) => (Loop (y0z y08 y00 y0i y0f yj yy y09 y03 yz y0d y0j y0b y0e y0g yx yr yw yq) (⟨167, 1⟩ : Cx) (at_ (bodyOf Try.f3) [1, 1, 1, 1, 1, 1, 1, 0, 1, 0, 0]) (mkEnv [(1, .row 0), (2, vi y5), (7, .ptr 1 0), (8, vi y2.1), (9, .ptr 2 0), (10, vi y4), (11, vi 0)]) [.row 19 acts true, .cells 0 (yk y2.2.1 ++ [.ptr 3 0, .row 4]), .cells 0 (yl y3.1.C ++ [.row 5, .row 6]), .cells 0 [.row 7], .row 0 (y2.2.2.1 : List Int) false, .row 6 (y3.2.1 : List (List Int)) false, .row 0 (y3.2.2 : List Int) false, .row 70 (y2.2.2.2 : List (List Int)) false] (contK (y0z y08 y00 y0i y0f yj yy y09 y03 yz y0d y0j y0b y0e y0g yx yr yw yq) (⟨167, 1⟩ : Cx) (bodyOf Try.f3) [1, 1, 1, 1, 1, 1, 1, 0, 1, 0] (retK (y0z y08 y00 y0i y0f yj yy y09 y03 yz y0d y0j y0b y0e y0g yx yr yw yq) Try.f3 1 K)))))))))))))) := by kernel_rfl
def y3k (a2 e : Int) (user atv : Int) (xv n : Int) (ok : Bool) (c2 c3 : Int) (c4 c5 : Int) (c6 c7 : Int) (c8 c9 : Int) (c10 c11 : Int) (c12 c13 : Int) (c14 c15 : Int) (c16 c17 : Int) (c18 c19 : Int) (c20 c21 : Int) (c22 c23 c24 : Int) (w : List Int) (w2 : List (List Int)) (w4 : List (List Int)) (iv : Int) : Option (Int ⊕ Bool) :=
  (bif (decide (iv < (↑w2.length : Int))) then (bif (inR iv w2.length) then (bif (inR (offs iv 0) w2.length) then (bif (decide (a2 ≥ List.getD (w2.getD (Int.toNat (offs iv (0 : Nat))) (List.replicate (3 : Nat) (0 : Int))) (0 : Nat) (0 : Int))) then (bif (decide (a2 < IntKind.i64.wrap (List.getD (w2.getD (Int.toNat (offs iv (0 : Nat))) (List.replicate (3 : Nat) (0 : Int))) (0 : Nat) (0 : Int) + List.getD (w2.getD (Int.toNat (offs iv (0 : Nat))) (List.replicate (3 : Nat) (0 : Int))) (2 : Nat) (0 : Int)))) then (bif (!ok) then some (.inr false) else (bif (xv != List.getD (w2.getD (Int.toNat (offs iv (0 : Nat))) (List.replicate (3 : Nat) (0 : Int))) (0 : Nat) (0 : Int)) then some (.inr false) else (bif (n != List.getD (w2.getD (Int.toNat (offs iv (0 : Nat))) (List.replicate (3 : Nat) (0 : Int))) (2 : Nat) (0 : Int)) then some (.inr false) else some (.inl (IntKind.i64.wrap (iv + 1)))))) else some (.inl (IntKind.i64.wrap (iv + 1)))) else some (.inl (IntKind.i64.wrap (iv + 1)))) else none) else none) else (bif (e == 0) then ((yr (IntKind.i64.wrap (user - 1)) (yd.mk (yc.mk c2 c3 c4 c5 c6 c7 c8 c9 c10 c11 c12) c13 c14 c15 c16 c17 c18 c19 c20 c21 c22 c23 c24) w w4).bind fun y0 => (bif (y0 == 0) then ((yr atv (yd.mk (yc.mk c2 c3 c4 c5 c6 c7 c8 c9 c10 c11 c12) c13 c14 c15 c16 c17 c18 c19 c20 c21 c22 c23 c24) w w4).bind fun y1 => (bif (y1 == 0) then (y08.bind fun y2 => some (.inr y2)) else some (.inr false))) else some (.inr false))) else some (.inr false)))
def y4n (a2 e : Int) (user atv : Int) (xv n : Int) (ok : Bool) (c2 c3 : Int) (c4 c5 : Int) (c6 c7 : Int) (c8 c9 : Int) (c10 c11 : Int) (c12 c13 : Int) (c14 c15 : Int) (c16 c17 : Int) (c18 c19 : Int) (c20 c21 : Int) (c22 c23 c24 : Int) (w : List Int) (w2 : List (List Int)) (w4 : List (List Int)) (s : Int) : Option Bool :=
  loopO (fun s => y3k a2 e user atv xv n ok c2 c3 c4 c5 c6 c7 c8 c9 c10 c11 c12 c13 c14 c15 c16 c17 c18 c19 c20 c21 c22 c23 c24 w w2 w4 s) s
def y3l (a2 e : Int) (user c2 : Int) (c3 c4 : Int) (c5 c6 : Int) (c7 c8 : Int) (c9 c10 : Int) (c11 c12 : Int) (c13 c14 : Int) (c15 c16 : Int) (c17 c18 : Int) (c19 c20 : Int) (c21 c22 : Int) (c23 c24 : Int) (w : List Int) (w2 : List (List Int)) (w3 : List Int) (w4 : List (List Int)) (atv iv : Int) : Option ((Int × Int) ⊕ Bool) :=
  (bif (decide (iv < (↑w3.length : Int))) then (bif (inR iv w3.length) then (bif (inR (offs iv 0) w3.length) then ((yr atv (yd.mk (yc.mk c2 c3 c4 c5 c6 c7 c8 c9 c10 c11 c12) c13 c14 c15 c16 c17 c18 c19 c20 c21 c22 c23 c24) w w4).bind fun y0 => (bif (y0 != w3.getD (offs iv 0).toNat 0) then some (.inr false) else some (.inl ((IntKind.i64.wrap (atv + 1)), (IntKind.i64.wrap (iv + 1)))))) else none) else none) else ((yq a2 (yd.mk (yc.mk c2 c3 c4 c5 c6 c7 c8 c9 c10 c11 c12) c13 c14 c15 c16 c17 c18 c19 c20 c21 c22 c23 c24) w w4).bind fun y1 => ((y4n a2 e user atv y1.1 y1.2.1 y1.2.2 c2 c3 c4 c5 c6 c7 c8 c9 c10 c11 c12 c13 c14 c15 c16 c17 c18 c19 c20 c21 c22 c23 c24 w w2 w4 0).bind fun z => some (.inr z))))
def y48 (a2 e : Int) (user c2 : Int) (c3 c4 : Int) (c5 c6 : Int) (c7 c8 : Int) (c9 c10 : Int) (c11 c12 : Int) (c13 c14 : Int) (c15 c16 : Int) (c17 c18 : Int) (c19 c20 : Int) (c21 c22 : Int) (c23 c24 : Int) (w : List Int) (w2 : List (List Int)) (w3 : List Int) (w4 : List (List Int)) (s : Int × Int) : Option Bool :=
  loopO (fun s => y3l a2 e user c2 c3 c4 c5 c6 c7 c8 c9 c10 c11 c12 c13 c14 c15 c16 c17 c18 c19 c20 c21 c22 c23 c24 w w2 w3 w4 s.1 s.2) s
def y43 (acts : List (List Int)) (a2 e : Int) (user c2 : Int) (c3 c4 : Int) (c5 c6 : Int) (c7 c8 : Int) (c9 c10 : Int) (c11 c12 : Int) (c13 c14 : Int) (c15 c16 : Int) (c17 c18 : Int) (c19 c20 : Int) (c21 c22 : Int) (c23 c24 : Int) (c25 c26 : Int) (c27 c28 : Int) (c29 c30 : Int) (c31 c32 : Int) (c33 c34 : Int) (c35 iv : Int) (w : List Int) (w2 : List (List Int)) (w3 : List Int) (w4 : List (List Int)) : Option ((Int × (List Int) × (List (List Int)) × (List Int) × (List (List Int))) ⊕ Bool) :=
  (bif (decide (iv < (↑acts.length : Int))) then (bif (inR iv acts.length) then (bif (inR (offs iv 0) acts.length) then ((y09 user (y06.mk (yb.mk (List.getD (acts.getD (Int.toNat (offs iv (0 : Nat))) (List.replicate (16 : Nat) (0 : Int))) (0 : Nat) (0 : Int)) (List.getD (acts.getD (Int.toNat (offs iv (0 : Nat))) (List.replicate (16 : Nat) (0 : Int))) (1 : Nat) (0 : Int)) (List.getD (acts.getD (Int.toNat (offs iv (0 : Nat))) (List.replicate (16 : Nat) (0 : Int))) (2 : Nat) (0 : Int)) (List.getD (acts.getD (Int.toNat (offs iv (0 : Nat))) (List.replicate (16 : Nat) (0 : Int))) (3 : Nat) (0 : Int)) (List.getD (acts.getD (Int.toNat (offs iv (0 : Nat))) (List.replicate (16 : Nat) (0 : Int))) (4 : Nat) (0 : Int))) (T_api_Reply.mk (List.getD (acts.getD (Int.toNat (offs iv (0 : Nat))) (List.replicate (16 : Nat) (0 : Int))) (5 : Nat) (0 : Int)) (List.getD (acts.getD (Int.toNat (offs iv (0 : Nat))) (List.replicate (16 : Nat) (0 : Int))) (6 : Nat) (0 : Int)) (List.getD (acts.getD (Int.toNat (offs iv (0 : Nat))) (List.replicate (16 : Nat) (0 : Int))) (7 : Nat) (0 : Int)) (List.getD (acts.getD (Int.toNat (offs iv (0 : Nat))) (List.replicate (16 : Nat) (0 : Int))) (8 : Nat) (0 : Int)) (ya.mk (List.getD (acts.getD (Int.toNat (offs iv (0 : Nat))) (List.replicate (16 : Nat) (0 : Int))) (9 : Nat) (0 : Int)) (List.getD (acts.getD (Int.toNat (offs iv (0 : Nat))) (List.replicate (16 : Nat) (0 : Int))) (10 : Nat) (0 : Int)) (List.getD (acts.getD (Int.toNat (offs iv (0 : Nat))) (List.replicate (16 : Nat) (0 : Int))) (11 : Nat) (0 : Int)) (List.getD (acts.getD (Int.toNat (offs iv (0 : Nat))) (List.replicate (16 : Nat) (0 : Int))) (12 : Nat) (0 : Int)) (List.getD (acts.getD (Int.toNat (offs iv (0 : Nat))) (List.replicate (16 : Nat) (0 : Int))) (13 : Nat) (0 : Int)) (List.getD (acts.getD (Int.toNat (offs iv (0 : Nat))) (List.replicate (16 : Nat) (0 : Int))) (14 : Nat) (0 : Int)) (List.getD (acts.getD (Int.toNat (offs iv (0 : Nat))) (List.replicate (16 : Nat) (0 : Int))) (15 : Nat) (0 : Int)))))).bind fun y0 => ((yz y0.Call y0.Reply (yd.mk (yc.mk c2 c3 c4 c5 c6 c7 c8 c9 c10 c11 c12) c13 c14 c15 c16 c17 c18 c19 c20 c21 c22 c23 c24) w w4).bind fun y1 => ((y0d y0.Call y0.Reply (T_assartref02_Layout.mk (yc.mk c25 c26 c27 c28 c29 c30 c31 c32 c33 c34 c35)) w2 w3).bind fun y2 => (bif (!y1.1 == y2.1) then some (.inr false) else ((y0b (yd.mk (yc.mk c2 c3 c4 c5 c6 c7 c8 c9 c10 c11 c12) c13 c14 c15 c16 c17 c18 c19 c20 c21 c22 c23 c24) y1.2.2 y1.2.1).bind fun y3 => ((y0e (T_assartref02_Layout.mk (yc.mk c25 c26 c27 c28 c29 c30 c31 c32 c33 c34 c35)) y2.2.1 y2.2.2).bind fun y4 => ((y0g y3 y4).bind fun y5 => (bif (!y5) then some (.inr false) else some (.inl ((IntKind.i64.wrap (iv + 1)), y1.2.2, y2.2.1, y2.2.2, y1.2.1)))))))))) else none) else none) else ((y48 a2 e user c2 c3 c4 c5 c6 c7 c8 c9 c10 c11 c12 c13 c14 c15 c16 c17 c18 c19 c20 c21 c22 c23 c24 w w2 w3 w4 (user, 0)).bind fun z => some (.inr z)))
def y3w (acts : List (List Int)) (a2 e : Int) (user c2 : Int) (c3 c4 : Int) (c5 c6 : Int) (c7 c8 : Int) (c9 c10 : Int) (c11 c12 : Int) (c13 c14 : Int) (c15 c16 : Int) (c17 c18 : Int) (c19 c20 : Int) (c21 c22 : Int) (c23 c24 : Int) (c25 c26 : Int) (c27 c28 : Int) (c29 c30 : Int) (c31 c32 : Int) (c33 c34 c35 : Int) (s : Int × (List Int) × (List (List Int)) × (List Int) × (List (List Int))) : Option Bool :=
  loopO (fun s => y43 acts a2 e user c2 c3 c4 c5 c6 c7 c8 c9 c10 c11 c12 c13 c14 c15 c16 c17 c18 c19 c20 c21 c22 c23 c24 c25 c26 c27 c28 c29 c30 c31 c32 c33 c34 c35 s.1 s.2.1 s.2.2.1 s.2.2.2.1 s.2.2.2.2) s
def y3u (c : yc) (a : Int) (acts : List (List Int)) : Option Bool :=
  (bif (decide ((↑acts.length : Int) > 80)) then (y08.bind fun y0 => some y0) else ((y00 c).bind fun y1 => ((y0i y1).bind fun y2 => ((y0f y1).bind fun y3 => ((yj y3.1).bind fun y4 => ((yy y4 a).bind fun y5 => (y3w acts y5 y2.1 y4 y2.2.1.c.Workers y2.2.1.c.CPUs y2.2.1.c.Pages y2.2.1.c.Stripes y2.2.1.c.Tries y2.2.1.c.Wait y2.2.1.c.Clock y2.2.1.c.Private y2.2.1.c.Cache y2.2.1.c.Bin y2.2.1.c.Batch y2.2.1.at_0 y2.2.1.at_1 y2.2.1.at_2 y2.2.1.at_3 y2.2.1.at_4 y2.2.1.at_5 y2.2.1.at_6 y2.2.1.at_7 y2.2.1.at_8 y2.2.1.at_9 y2.2.1.at_10 y2.2.1.at_11 y3.1.C.Workers y3.1.C.CPUs y3.1.C.Pages y3.1.C.Stripes y3.1.C.Tries y3.1.C.Wait y3.1.C.Clock y3.1.C.Private y3.1.C.Cache y3.1.C.Bin y3.1.C.Batch (0, y2.2.2.1, y3.2.1, y3.2.2, y2.2.2.2))))))))
attribute [local irreducible] Loop ex exF contK roundK retK at_ bodyOf mkEnv
theorem lpok_law20_ModelPlays_L3 (c : yc) (a : Int) (acts : List (List Int)) (a2 e : Int) (user atv : Int) (xv n : Int) (ok : Bool) (iv c2 : Int) (c3 c4 : Int) (c5 c6 : Int) (c7 c8 : Int) (c9 c10 : Int) (c11 c12 : Int) (c13 c14 : Int) (c15 c16 : Int) (c17 c18 : Int) (c19 c20 : Int) (c21 c22 : Int) (c23 c24 : Int) (c25 c26 : Int) (c27 c28 : Int) (c29 c30 : Int) (c31 c32 : Int) (c33 c34 c35 : Int) (w : List Int) (w2 : List (List Int)) (w3 : List Int) (w4 : List (List Int)) (K : V → Heap → Prop) : So (y4n a2 e user atv xv n ok c2 c3 c4 c5 c6 c7 c8 c9 c10 c11 c12 c13 c14 c15 c16 c17 c18 c19 c20 c21 c22 c23 c24 w w2 w4 iv) (fun (x : Bool) => K (vb x) [.row 19 acts true]) → Loop (y0z y08 y00 y0i y0f yj yy y09 y03 yz y0d y0j y0b y0e y0g yx yr yw yq) (⟨167, 1⟩ : Cx) (at_ (bodyOf Try.f3) [1, 1, 1, 1, 1, 1, 1, 1, 1, 1, 1, 0, 1, 0, 0]) (mkEnv [(2, vi a2), (7, .ptr 1 0), (8, vi e), (9, .ptr 2 0), (10, vi user), (13, vi atv), (15, vi xv), (16, vi n), (17, vb ok), (18, vi iv)]) [.row 19 acts true, .cells 0 [vi c2, vi c3, vi c4, vi c5, vi c6, vi c7, vi c8, vi c9, vi c10, vi c11, vi c12, vi c13, vi c14, vi c15, vi c16, vi c17, vi c18, vi c19, vi c20, vi c21, vi c22, vi c23, vi c24, .ptr 3 0, .row 4], .cells 0 [vi c25, vi c26, vi c27, vi c28, vi c29, vi c30, vi c31, vi c32, vi c33, vi c34, vi c35, .row 5, .row 6], .cells 0 [.row 7], .row 0 w false, .row 6 w2 false, .row 0 w3 false, .row 70 w4 false] (contK (y0z y08 y00 y0i y0f yj yy y09 y03 yz y0d y0j y0b y0e y0g yx yr yw yq) (⟨167, 1⟩ : Cx) (bodyOf Try.f3) [1, 1, 1, 1, 1, 1, 1, 1, 1, 1, 1, 0, 1, 0] (retK (y0z y08 y00 y0i y0f yj yy y09 y03 yz y0d y0j y0b y0e y0g yx yr yw yq) Try.f3 1 K)) := by
  refine loopK_So (fun (s_ : Int) => (mkEnv [(2, vi a2), (7, .ptr 1 0), (8, vi e), (9, .ptr 2 0), (10, vi user), (13, vi atv), (15, vi xv), (16, vi n), (17, vb ok), (18, vi s_)])) (fun (s_ : Int) => [.row 19 acts true, .cells 0 [vi c2, vi c3, vi c4, vi c5, vi c6, vi c7, vi c8, vi c9, vi c10, vi c11, vi c12, vi c13, vi c14, vi c15, vi c16, vi c17, vi c18, vi c19, vi c20, vi c21, vi c22, vi c23, vi c24, .ptr 3 0, .row 4], .cells 0 [vi c25, vi c26, vi c27, vi c28, vi c29, vi c30, vi c31, vi c32, vi c33, vi c34, vi c35, .row 5, .row 6], .cells 0 [.row 7], .row 0 w false, .row 6 w2 false, .row 0 w3 false, .row 70 w4 false]) (fun (x : Bool) => K (vb x) [.row 19 acts true]) ?_ iv
  intro s_ J1 h
  clear iv
  revert h; revert s_; intro iv h
  refine Eq.mpr (yev y08 y00 y0i y0f yj yy y09 y03 yz y0d y0j y0b y0e y0g yx yr yw yq c a acts a2 e user atv xv n ok iv c2 c3 c4 c5 c6 c7 c8 c9 c10 c11 c12 c13 c14 c15 c16 c17 c18 c19 c20 c21 c22 c23 c24 c25 c26 c27 c28 c29 c30 c31 c32 c33 c34 c35 w w2 w3 w4 K J1) ?_
  have h : So (y3k a2 e user atv xv n ok c2 c3 c4 c5 c6 c7 c8 c9 c10 c11 c12 c13 c14 c15 c16 c17 c18 c19 c20 c21 c22 c23 c24 w w2 w4 iv) _ := h
  unfold y3k at h
  revert h
  exact br_So (req_So (req_So (br_So (br_So (br_So (fun h => h) (br_So (fun h => h) (br_So (fun h => h) (fun h => h)))) (fun h => h)) (fun h => h)))) (br_So (bind_So fun y0 => br_So (bind_So fun y1 => br_So (bind_So fun y2 => fun h => h) (fun h => h)) (fun h => h)) (fun h => h))
theorem lpok_law20_ModelPlays_L2 (c : yc) (a : Int) (acts : List (List Int)) (a2 e : Int) (user atv : Int) (iv c2 : Int) (c3 c4 : Int) (c5 c6 : Int) (c7 c8 : Int) (c9 c10 : Int) (c11 c12 : Int) (c13 c14 : Int) (c15 c16 : Int) (c17 c18 : Int) (c19 c20 : Int) (c21 c22 : Int) (c23 c24 : Int) (c25 c26 : Int) (c27 c28 : Int) (c29 c30 : Int) (c31 c32 : Int) (c33 c34 c35 : Int) (w : List Int) (w2 : List (List Int)) (w3 : List Int) (w4 : List (List Int)) (K : V → Heap → Prop) : So (y48 a2 e user c2 c3 c4 c5 c6 c7 c8 c9 c10 c11 c12 c13 c14 c15 c16 c17 c18 c19 c20 c21 c22 c23 c24 w w2 w3 w4 (atv, iv)) (fun (x : Bool) => K (vb x) [.row 19 acts true]) → Loop (y0z y08 y00 y0i y0f yj yy y09 y03 yz y0d y0j y0b y0e y0g yx yr yw yq) (⟨167, 1⟩ : Cx) (at_ (bodyOf Try.f3) [1, 1, 1, 1, 1, 1, 1, 1, 1, 0, 1, 0, 0]) (mkEnv [(2, vi a2), (7, .ptr 1 0), (8, vi e), (9, .ptr 2 0), (10, vi user), (13, vi atv), (14, vi iv)]) [.row 19 acts true, .cells 0 [vi c2, vi c3, vi c4, vi c5, vi c6, vi c7, vi c8, vi c9, vi c10, vi c11, vi c12, vi c13, vi c14, vi c15, vi c16, vi c17, vi c18, vi c19, vi c20, vi c21, vi c22, vi c23, vi c24, .ptr 3 0, .row 4], .cells 0 [vi c25, vi c26, vi c27, vi c28, vi c29, vi c30, vi c31, vi c32, vi c33, vi c34, vi c35, .row 5, .row 6], .cells 0 [.row 7], .row 0 w false, .row 6 w2 false, .row 0 w3 false, .row 70 w4 false] (contK (y0z y08 y00 y0i y0f yj yy y09 y03 yz y0d y0j y0b y0e y0g yx yr yw yq) (⟨167, 1⟩ : Cx) (bodyOf Try.f3) [1, 1, 1, 1, 1, 1, 1, 1, 1, 0, 1, 0] (retK (y0z y08 y00 y0i y0f yj yy y09 y03 yz y0d y0j y0b y0e y0g yx yr yw yq) Try.f3 1 K)) := by
  refine loopK_So (fun (s_ : Int × Int) => (mkEnv [(2, vi a2), (7, .ptr 1 0), (8, vi e), (9, .ptr 2 0), (10, vi user), (13, vi s_.1), (14, vi s_.2)])) (fun (s_ : Int × Int) => [.row 19 acts true, .cells 0 [vi c2, vi c3, vi c4, vi c5, vi c6, vi c7, vi c8, vi c9, vi c10, vi c11, vi c12, vi c13, vi c14, vi c15, vi c16, vi c17, vi c18, vi c19, vi c20, vi c21, vi c22, vi c23, vi c24, .ptr 3 0, .row 4], .cells 0 [vi c25, vi c26, vi c27, vi c28, vi c29, vi c30, vi c31, vi c32, vi c33, vi c34, vi c35, .row 5, .row 6], .cells 0 [.row 7], .row 0 w false, .row 6 w2 false, .row 0 w3 false, .row 70 w4 false]) (fun (x : Bool) => K (vb x) [.row 19 acts true]) ?_ (atv, iv)
  intro s_ J1 h
  clear atv
  clear iv
  obtain ⟨atv, iv⟩ := s_
  refine Eq.mpr (yg0 y08 y00 y0i y0f yj yy y09 y03 yz y0d y0j y0b y0e y0g yx yr yw yq c a acts a2 e user atv iv c2 c3 c4 c5 c6 c7 c8 c9 c10 c11 c12 c13 c14 c15 c16 c17 c18 c19 c20 c21 c22 c23 c24 c25 c26 c27 c28 c29 c30 c31 c32 c33 c34 c35 w w2 w3 w4 K J1) ?_
  have h : So (y3l a2 e user c2 c3 c4 c5 c6 c7 c8 c9 c10 c11 c12 c13 c14 c15 c16 c17 c18 c19 c20 c21 c22 c23 c24 w w2 w3 w4 atv iv) _ := h
  unfold y3l at h
  revert h
  exact br_So (req_So (req_So (bind_So fun y0 => br_So (fun h => h) (fun h => h)))) (bind_So fun y1 => mapK_So (lpok_law20_ModelPlays_L3 c a acts a2 e user atv y1.1 y1.2.1 y1.2.2 0 c2 c3 c4 c5 c6 c7 c8 c9 c10 c11 c12 c13 c14 c15 c16 c17 c18 c19 c20 c21 c22 c23 c24 c25 c26 c27 c28 c29 c30 c31 c32 c33 c34 c35 w w2 w3 w4 K))
theorem lpok_law20_ModelPlays_L1 (c : yc) (a : Int) (acts : List (List Int)) (a2 e : Int) (user iv : Int) (c2 c3 : Int) (c4 c5 : Int) (c6 c7 : Int) (c8 c9 : Int) (c10 c11 : Int) (c12 c13 : Int) (c14 c15 : Int) (c16 c17 : Int) (c18 c19 : Int) (c20 c21 : Int) (c22 c23 : Int) (c24 c25 : Int) (c26 c27 : Int) (c28 c29 : Int) (c30 c31 : Int) (c32 c33 : Int) (c34 c35 : Int) (w : List Int) (w2 : List (List Int)) (w3 : List Int) (w4 : List (List Int)) (K : V → Heap → Prop) : So (y3w acts a2 e user c2 c3 c4 c5 c6 c7 c8 c9 c10 c11 c12 c13 c14 c15 c16 c17 c18 c19 c20 c21 c22 c23 c24 c25 c26 c27 c28 c29 c30 c31 c32 c33 c34 c35 (iv, w, w2, w3, w4)) (fun (x : Bool) => K (vb x) [.row 19 acts true]) → Loop (y0z y08 y00 y0i y0f yj yy y09 y03 yz y0d y0j y0b y0e y0g yx yr yw yq) (⟨167, 1⟩ : Cx) (at_ (bodyOf Try.f3) [1, 1, 1, 1, 1, 1, 1, 0, 1, 0, 0]) (mkEnv [(1, .row 0), (2, vi a2), (7, .ptr 1 0), (8, vi e), (9, .ptr 2 0), (10, vi user), (11, vi iv)]) [.row 19 acts true, .cells 0 [vi c2, vi c3, vi c4, vi c5, vi c6, vi c7, vi c8, vi c9, vi c10, vi c11, vi c12, vi c13, vi c14, vi c15, vi c16, vi c17, vi c18, vi c19, vi c20, vi c21, vi c22, vi c23, vi c24, .ptr 3 0, .row 4], .cells 0 [vi c25, vi c26, vi c27, vi c28, vi c29, vi c30, vi c31, vi c32, vi c33, vi c34, vi c35, .row 5, .row 6], .cells 0 [.row 7], .row 0 w false, .row 6 w2 false, .row 0 w3 false, .row 70 w4 false] (contK (y0z y08 y00 y0i y0f yj yy y09 y03 yz y0d y0j y0b y0e y0g yx yr yw yq) (⟨167, 1⟩ : Cx) (bodyOf Try.f3) [1, 1, 1, 1, 1, 1, 1, 0, 1, 0] (retK (y0z y08 y00 y0i y0f yj yy y09 y03 yz y0d y0j y0b y0e y0g yx yr yw yq) Try.f3 1 K)) := by
  refine loopK_So (fun (s_ : Int × (List Int) × (List (List Int)) × (List Int) × (List (List Int))) => (mkEnv [(1, .row 0), (2, vi a2), (7, .ptr 1 0), (8, vi e), (9, .ptr 2 0), (10, vi user), (11, vi s_.1)])) (fun (s_ : Int × (List Int) × (List (List Int)) × (List Int) × (List (List Int))) => [.row 19 acts true, .cells 0 [vi c2, vi c3, vi c4, vi c5, vi c6, vi c7, vi c8, vi c9, vi c10, vi c11, vi c12, vi c13, vi c14, vi c15, vi c16, vi c17, vi c18, vi c19, vi c20, vi c21, vi c22, vi c23, vi c24, .ptr 3 0, .row 4], .cells 0 [vi c25, vi c26, vi c27, vi c28, vi c29, vi c30, vi c31, vi c32, vi c33, vi c34, vi c35, .row 5, .row 6], .cells 0 [.row 7], .row 0 (s_.2.1 : List Int) false, .row 6 (s_.2.2.1 : List (List Int)) false, .row 0 (s_.2.2.2.1 : List Int) false, .row 70 (s_.2.2.2.2 : List (List Int)) false]) (fun (x : Bool) => K (vb x) [.row 19 acts true]) ?_ (iv, w, w2, w3, w4)
  intro s_ J1 h
  clear iv
  clear w
  clear w2
  clear w3
  clear w4
  obtain ⟨iv, w, w2, w3, w4⟩ := s_
  refine Eq.mpr (yfe y08 y00 y0i y0f yj yy y09 y03 yz y0d y0j y0b y0e y0g yx yr yw yq c a acts a2 e user iv c2 c3 c4 c5 c6 c7 c8 c9 c10 c11 c12 c13 c14 c15 c16 c17 c18 c19 c20 c21 c22 c23 c24 c25 c26 c27 c28 c29 c30 c31 c32 c33 c34 c35 w w2 w3 w4 K J1) ?_
  have h : So (y43 acts a2 e user c2 c3 c4 c5 c6 c7 c8 c9 c10 c11 c12 c13 c14 c15 c16 c17 c18 c19 c20 c21 c22 c23 c24 c25 c26 c27 c28 c29 c30 c31 c32 c33 c34 c35 iv w w2 w3 w4) _ := h
  unfold y43 at h
  revert h
  exact br_So (req_So (req_So (bind_So fun y0 => bind_So fun y1 => bind_So fun y2 => br_So (fun h => h) (bind_So fun y3 => bind_So fun y4 => bind_So fun y5 => br_So (fun h => h) (fun h => h))))) (mapK_So (lpok_law20_ModelPlays_L2 c a acts a2 e user user 0 c2 c3 c4 c5 c6 c7 c8 c9 c10 c11 c12 c13 c14 c15 c16 c17 c18 c19 c20 c21 c22 c23 c24 c25 c26 c27 c28 c29 c30 c31 c32 c33 c34 c35 w w2 w3 w4 K))
theorem yfb : SpecOK Try.prog elTT 3 (yf7 y3u) := by
  refine spec_of_exF (cfg := (y0z y08 y00 y0i y0f yj yy y09 y03 yz y0d y0j y0b y0e y0g yx yr yw yq)) (yo rfl rfl rfl) (yi ygg (yi ybp (yi yd2 (yi ydp (yi y3g (yi yas (yi ycb (yi (altNil_ok y97 y8o) (yi yg5 (yi (altNil_ok ydz yf4) (yi yfo (yi ycl (yi (altNil_ok y4w y5i) (yi (altNil_ok y4m y4j) yp)))))))))))))) (fn := Try.f3) (by kernel_rfl) (by kernel_rfl) (by kernel_rfl) ?_
  intro args H K h
  change y5f y3u args H K at h
  unfold y5f at h
  repeat first | (obtain ⟨_, h⟩ := h) | replace h := Des.el h
  subst_vars
  refine Eq.mpr (yfu y08 y00 y0i y0f yj yy y09 y03 yz y0d y0j y0b y0e y0g yx yr yw yq _ _ _ K) ?_
  unfold y3u at h
  revert h
  exact br_So (bind_So fun y0 => fun h => h) (bind_So fun y1 => bind_So fun y2 => bind_So fun y3 => bind_So fun y4 => bind_So fun y5 => lpok_law20_ModelPlays_L1 (by first | assumption | exact default) (by first | assumption | exact default) _ _ _ _ _ _ _ _ _ _ _ _ _ _ _ _ _ _ _ _ _ _ _ _ _ _ _ _ _ _ _ _ _ _ _ _ _ _ _ _ _ _ _ K)
end Go.Rx
end

section
namespace Go.Rx
open Go.Proofs
theorem mNewR_eq {d : yc} (h : RightC d) : y0i d = some (0, layC d, List.replicate (d.Pages * 32).toNat 0, []) := NewR_eq h
theorem ModelPlays_main (c : yc) (a : Int) (acts : List (List Int)) (ha : I64 a) (hacts : ∀ e ∈ acts, ActOK e) : y3u c a acts = some true := by
  unfold y3u
  by_cases hlen : ((acts.length : Nat) : Int) > 80
  · rw [decide_eq_true hlen, cond_true, lives_ok]; rfl
  rw [decide_eq_false hlen, cond_false]
  obtain ⟨d, hS, hR⟩ := Small20 c
  have hL := layC_ok hR
  have hb := hL.big; have h11 := hL.a11; have hpg := hL.pages
  have hu : 0 ≤ (layC d).at_10 ∧ (layC d).at_10 ≤ 100000 := by omega
  rw [hS, Option.bind_some, mNewR_eq hR, Option.bind_some, rNew_eq hR, Option.bind_some]
  dsimp only
  rw [rUser_eq hR, Option.bind_some, lay20_eq hu, Option.bind_some]
  have ha2 := layI_b hu ha
  generalize layI (layC d).at_10 a = a2 at *
  have hw0 := rep_len hR
  generalize List.replicate (d.Pages * 32).toNat (0 : Int) = ws0 at *
  have hs0 := nil_SOK hR
  have L3 : ∀ (its B : List (List Int)) (ws : List Int), SOK (layC d) its → B.Perm its → its.length ≤ 1000 → (ws.length : Int) = (layC d).at_11 - (layC d).at_10 →
      y4n a2 0 (layC d).at_10 (layC d).at_11 (blkA its a2).1 (blkA its a2).2.1 (blkA its a2).2.2 (layC d).c.Workers (layC d).c.CPUs (layC d).c.Pages (layC d).c.Stripes (layC d).c.Tries (layC d).c.Wait (layC d).c.Clock (layC d).c.Private (layC d).c.Cache (layC d).c.Bin (layC d).c.Batch
        (layC d).at_0 (layC d).at_1 (layC d).at_2 (layC d).at_3 (layC d).at_4 (layC d).at_5 (layC d).at_6 (layC d).at_7 (layC d).at_8 (layC d).at_9 (layC d).at_10 (layC d).at_11 ws B its 0 = some true := by
    intro its B ws hs hp hn hw
    have hBl : B.length = its.length := hp.length_eq
    unfold y4n
    have hh := scanS (step := fun s => y3k a2 0 (layC d).at_10 (layC d).at_11 (blkA its a2).1 (blkA its a2).2.1 (blkA its a2).2.2 (layC d).c.Workers (layC d).c.CPUs (layC d).c.Pages (layC d).c.Stripes (layC d).c.Tries (layC d).c.Wait (layC d).c.Clock (layC d).c.Private (layC d).c.Cache (layC d).c.Bin (layC d).c.Batch
        (layC d).at_0 (layC d).at_1 (layC d).at_2 (layC d).at_3 (layC d).at_4 (layC d).at_5 (layC d).at_6 (layC d).at_7 (layC d).at_8 (layC d).at_9 (layC d).at_10 (layC d).at_11 ws B its s) (l := B) (fun A => (A.length : Int)) (fun _ => True) (fun r => r = true)
      (fun A b C e _ => by
        left
        refine ⟨?_, trivial⟩
        have hlt : decide ((A.length : Int) < (B.length : Int)) = true := by rw [e]; exact mid_lt A b C
        have hl : A.length < B.length := by rw [e]; simp
        have hi : inR (A.length : Int) B.length = true := by rw [e]; exact mid_in A b C
        have hg : B.getD A.length (List.replicate 3 0) = b := by rw [e]; exact mid_get A b C _
        have hm : b ∈ its := hp.mem_iff.1 (by rw [e]; simp)
        have hB := hs.all b hm
        have b1 := hB.lo; have b2 := hB.hi; have b3 := hB.one
        have eb : List.getD b 0 0 = kk b := rfl
        have ew : List.getD b 2 0 = ww b := rfl
        simp only [y3k, hlt, cond_true, offs0, hi, Int.toNat_natCast, hg, eb, ew]
        rw [wrap_id (x := kk b + ww b) (by omega) (by omega), wrap_succ (by omega)]
        have fin : (A.length + 1 : Nat) = (A ++ [b]).length := by simp
        by_cases h1 : a2 ≥ kk b
        · by_cases h2 : a2 < kk b + ww b
          · rw [decide_eq_true h1, decide_eq_true h2, blkA_mem hs hm ⟨h1, h2⟩, fin]; simp
          · rw [decide_eq_true h1, decide_eq_false h2, fin]; rfl
        · rw [decide_eq_false h1, fin]; rfl)
      (fun _ => ⟨true, by
        simp only [y3k]
        rw [decide_eq_false (by omega), cond_false, etaL, wrap_id (x := (layC d).at_10 - 1) (by omega) (by omega), Word_eq hL hw, Word_eq hL hw, wordA_out (by omega), wordA_out (by omega), lives_ok]; rfl, rfl⟩)
      trivial
    obtain ⟨r, h1, h2⟩ := hh
    have h1 : loopO _ (0 : Int) = some r := h1
    rw [h1, h2]
  have L2 : ∀ (its B : List (List Int)) (ws : List Int), SOK (layC d) its → B.Perm its → its.length ≤ 1000 → (ws.length : Int) = (layC d).at_11 - (layC d).at_10 →
      y48 a2 0 (layC d).at_10 (layC d).c.Workers (layC d).c.CPUs (layC d).c.Pages (layC d).c.Stripes (layC d).c.Tries (layC d).c.Wait (layC d).c.Clock (layC d).c.Private (layC d).c.Cache (layC d).c.Bin (layC d).c.Batch
        (layC d).at_0 (layC d).at_1 (layC d).at_2 (layC d).at_3 (layC d).at_4 (layC d).at_5 (layC d).at_6 (layC d).at_7 (layC d).at_8 (layC d).at_9 (layC d).at_10 (layC d).at_11 ws B ws its ((layC d).at_10, 0) = some true := by
    intro its B ws hs hp hn hw
    unfold y48
    have hh := countS (step := fun s => y3l a2 0 (layC d).at_10 (layC d).c.Workers (layC d).c.CPUs (layC d).c.Pages (layC d).c.Stripes (layC d).c.Tries (layC d).c.Wait (layC d).c.Clock (layC d).c.Private (layC d).c.Cache (layC d).c.Bin (layC d).c.Batch
        (layC d).at_0 (layC d).at_1 (layC d).at_2 (layC d).at_3 (layC d).at_4 (layC d).at_5 (layC d).at_6 (layC d).at_7 (layC d).at_8 (layC d).at_9 (layC d).at_10 (layC d).at_11 ws B ws its s.1 s.2) (fun i => ((layC d).at_10 + (i : Int), (i : Int))) ws.length (fun _ => True) (fun r => r = true)
      (fun i hi _ => by
        left
        refine ⟨?_, trivial⟩
        have hlt : decide ((i : Int) < (ws.length : Int)) = true := decide_eq_true (by omega)
        simp only [y3l, hlt, cond_true, offs0, inR_nat hi, Int.toNat_natCast]
        rw [etaL, Word_eq hL hw, Option.bind_some]
        have : wordA (layC d) ws ((layC d).at_10 + (i : Int)) = ws.getD i 0 := by
          unfold wordA
          rw [if_pos (by omega), show ((layC d).at_10 + (i : Int) - (layC d).at_10).toNat = i by omega]
        rw [this, show (ws.getD i 0 != ws.getD i 0) = false by simp, cond_false, wrap_id (by omega) (by omega), wrap_succ (by omega), show (layC d).at_10 + (i : Int) + 1 = (layC d).at_10 + ((i + 1 : Nat) : Int) by omega])
      (fun _ => ⟨true, by
        simp only [y3l]
        rw [decide_eq_false (by omega), cond_false, etaL, Block_eq hs (by omega) ha2, Option.bind_some, show (layC d).at_10 + ((ws.length : Nat) : Int) = (layC d).at_11 by omega, L3 its B ws hs hp hn hw]; rfl, rfl⟩)
      trivial
    obtain ⟨r, h1, h2⟩ := hh
    rw [show (layC d).at_10 + ((0 : Nat) : Int) = (layC d).at_10 by omega] at h1
    have h1 : loopO _ ((layC d).at_10, (0 : Int)) = some r := h1
    rw [h1, h2]
  have key : ∀ (R A : List (List Int)) (its B : List (List Int)) (ws : List Int), acts = A ++ R → SOK (layC d) its → B.Perm its → its.length ≤ A.length → (ws.length : Int) = (layC d).at_11 - (layC d).at_10 →
      y3w acts a2 0 (layC d).at_10 (layC d).c.Workers (layC d).c.CPUs (layC d).c.Pages (layC d).c.Stripes (layC d).c.Tries (layC d).c.Wait (layC d).c.Clock (layC d).c.Private (layC d).c.Cache (layC d).c.Bin (layC d).c.Batch
        (layC d).at_0 (layC d).at_1 (layC d).at_2 (layC d).at_3 (layC d).at_4 (layC d).at_5 (layC d).at_6 (layC d).at_7 (layC d).at_8 (layC d).at_9 (layC d).at_10 (layC d).at_11 d.Workers d.CPUs d.Pages d.Stripes d.Tries d.Wait d.Clock d.Private d.Cache d.Bin d.Batch ((A.length : Int), ws, B, ws, its) = some true := by
    intro R
    induction R with
    | nil =>
      intro A its B ws e hs hp hn hw
      rw [List.append_nil] at e
      unfold y3w
      refine loopO_end ?_
      simp only [y43]
      rw [e, decide_eq_false (by omega), cond_false, L2 its B ws hs hp (by rw [e] at hlen; omega) hw]; rfl
    | cons x R ih =>
      intro A its B ws e hs hp hn hw
      have hl : A.length < acts.length := by rw [e]; simp
      have hlt : decide ((A.length : Int) < (acts.length : Int)) = true := decide_eq_true (by omega)
      have hi : inR (A.length : Int) acts.length = true := inR_nat hl
      have hg : acts.getD A.length (List.replicate 16 0) = x := by rw [e]; exact mid_get A x R _
      have hx : ActOK x := hacts x (by rw [e]; simp)
      have hcrb := hx.crb hu
      obtain ⟨B', r1, r2⟩ := rStep_eq (r := mRep (layC d).at_10 (actR x)) (c := mCall (layC d).at_10 (actC x)) hR hs hp (by omega) hw hcrb
      have hok := stepR_ok (ws := ws) (c := mCall (layC d).at_10 (actC x)) (r := mRep (layC d).at_10 (actR x)) hs
      generalize hst : stepR (layC d) its ws (mCall (layC d).at_10 (actC x)) (mRep (layC d).at_10 (actR x)) = st at *
      have nx := ih (A ++ [x]) st.2.1 B' st.2.2 (by rw [e]; simp) hok.1 r2 (by have := hok.2.2.1; simp; omega) (by rw [hok.2.1]; exact hw)
      unfold y3w at nx ⊢
      refine (loopO_go ?_).trans nx
      simp only [y43, hlt, cond_true, offs0, hi, Int.toNat_natCast, hg]
      have hmeant : y09 (layC d).at_10 ⟨⟨List.getD x 0 0, List.getD x 1 0, List.getD x 2 0, List.getD x 3 0, List.getD x 4 0⟩, ⟨List.getD x 5 0, List.getD x 6 0, List.getD x 7 0, List.getD x 8 0, ⟨List.getD x 9 0, List.getD x 10 0, List.getD x 11 0, List.getD x 12 0, List.getD x 13 0, List.getD x 14 0, List.getD x 15 0⟩⟩⟩ = some ⟨mCall (layC d).at_10 (actC x), mRep (layC d).at_10 (actR x)⟩ := meant_eq hu (actC x) (actR x)
      rw [hmeant, Option.bind_some, etaL, etaC]
      dsimp only
      have hn2 := hok.2.2.1
      rw [Step_eq hs (by omega) hw hcrb, Option.bind_some, hst, r1, Option.bind_some]
      dsimp only
      rw [show (!st.1 == st.1) = false by cases st.1 <;> rfl, cond_false, Live_eq (by omega), Option.bind_some, rLive_eq hR hok.1 r2 (by omega), Option.bind_some, Same_self _ (by rw [pairs_len]; omega), Option.bind_some, wrap_succ (by omega)]
      simp
  exact key acts [] [] [] ws0 rfl hs0 (List.Perm.refl _) (by simp) hw0
end Go.Rx
end

section
namespace Go.Rx
open Go.Proofs
theorem el_i64 {n : Nat} {e : List Int} (h : elWf (n + 4) e) {i : Nat} (hi : i < n % 32 + 1) : I64 (e.getD i 0) := by
  have h1 := h .i64 (e.getD i 0) (List.mem_map.2 ⟨i, List.mem_range.2 hi, rfl⟩)
  exact bounds_i64 h1
theorem int_i64 {x : Int} (h : elWf 0 x) : I64 x := by
  have h1 := h .i64 x (by show Value.int .i64 x ∈ [i64 x]; simp)
  exact bounds_i64 h1
theorem yce : SpecOK Try.prog elTT 3 (lawS [.el 14, .row 19, .el 0]) := spec_mono (fun args H K h => by
  obtain ⟨ha, hk⟩ := h
  obtain ⟨e0, _, rfl, hw0, l1, _, _, rfl, rfl, hw1, hn1, e2, _, rfl, hw2, rfl, rfl⟩ := ha
  show So (y3u (⟨List.getD (e0 : List Int) 0 0, List.getD (e0 : List Int) 1 0, List.getD (e0 : List Int) 2 0, List.getD (e0 : List Int) 3 0, List.getD (e0 : List Int) 4 0, List.getD (e0 : List Int) 5 0, List.getD (e0 : List Int) 6 0, List.getD (e0 : List Int) 7 0, List.getD (e0 : List Int) 8 0, List.getD (e0 : List Int) 9 0, List.getD (e0 : List Int) 10 0⟩ : yc) e2 l1) _
  exact So_eq (ModelPlays_main _ _ _ (int_i64 hw2) (fun a ha i hi => el_i64 (n := 15) (hw1 a ha) hi)) (hk _)) yfb
end Go.Rx
end
