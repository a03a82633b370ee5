/- What the row's text of this claim stands on, part 5: the symbolic executor, contracts of the program's functions, plain facts. No condition. -/
import Derived.Test.YtomfeogahjiehaaK27aD
noncomputable section
namespace Go.Rx
open Go.Proofs
set_option maxRecDepth 100000
set_option maxHeartbeats 4000000
theorem yfn {cs : List V} {k : T_assartref02_Layout → List V → Prop} (h : y1s (List.take 11 cs) fun x => aRest (List.drop 11 cs) fun r => k x r) : ∃ x r, cs = y05 x ++ r ∧ k x r := by
  obtain ⟨x, e, h⟩ := ybr h
  exact ⟨x, _, by rw [← e, List.take_append_drop], h⟩
instance (cs : List V) (k : T_assartref02_Layout → List V → Prop) : Des (y1s (List.take 11 cs) fun x => aRest (List.drop 11 cs) fun r => k x r) (∃ x r, cs = y05 x ++ r ∧ k x r) := ⟨yfn⟩
abbrev Y8 := yb → Option (T_assartref02_Layout × (List (List Int)) × (List Int))
def y9g (m_ : Y8) (args : List V) (H : Heap) (K : V → Heap → Prop) : Prop :=
  aC args fun a0 r => aN r <| aAgg a0 fun c0 => y26 c0 fun c => aN H <| So (m_ c) fun x => K (.ptr 0 0) [.cells 0 (y05 x.1 ++ [.row 1, .row 2]), .row 6 x.2.1 false, .row 0 x.2.2 false]
def yds (m_ : Y8) : Spec := ⟨y9g m_, (true : Bool)⟩
def y85 (m_ : Y10) (args : List V) (H : Heap) (K : V → Heap → Prop) : Prop :=
  aC args fun a0 r => aC r fun a1 r => aN r <| aInt a0 fun n => aInt a1 fun align => aN H <| So (m_ n align) fun x => K (vi x) []
def y6k (m_ : Y10) : Spec := ⟨y85 m_, (true : Bool)⟩
def y9d (m_ : Int → T_assartref02_Layout → (List (List Int)) → (List Int) → Option Int) (args : List V) (H : Heap) (K : V → Heap → Prop) : Prop :=
  aC args fun a0 r => aC r fun a1 r => aN r <| aPtr 0 a0 <| aInt a1 fun a => aC H fun b0 r => aC r fun b1 r => aC r fun b2 r => aN r <| bRCells b0 fun c0 => y1s (List.take 11 c0) fun m_Lv => aRest (List.drop 11 c0) fun r => aC r fun d0_11 r => aRow 1 d0_11 <| aC r fun d0_12 r => aRow 2 d0_12 <| aN r <| bRow 6 true b1 fun (m_Bv : List (List Int)) => bRow 0 true b2 fun (m_Wv : List Int) => So (m_ a m_Lv m_Bv m_Wv) fun x => K (vi x) [.rcells (y05 m_Lv ++ [.row 1, .row 2]), .row 6 m_Bv true, .row 0 m_Wv true]
def y7d (m_ : Int → T_assartref02_Layout → (List (List Int)) → (List Int) → Option Int) : Spec := ⟨y9d m_, (⟨true, fun i => false, fun i => Nat.beq i 0⟩ : RO)⟩
def y66 (m_ : Int → T_assartref02_Layout → (List (List Int)) → (List Int) → Option Int) (args : List V) (H : Heap) (K : V → Heap → Prop) : Prop :=
  aC args fun a0 r => aC r fun a1 r => aN r <| aPtr 0 a0 <| aInt a1 fun a => aC H fun b0 r => aC r fun b1 r => aC r fun b2 r => aN r <| bRCells b0 fun c0 => y1s (List.take 11 c0) fun m_Lv => aRest (List.drop 11 c0) fun r => aC r fun d0_11 r => aRow 1 d0_11 <| aC r fun d0_12 r => aRow 2 d0_12 <| aN r <| bRow 6 true b1 fun (m_Bv : List (List Int)) => bRow 0 true b2 fun (m_Wv : List Int) => So (m_ a m_Lv m_Bv m_Wv) fun x => K (vi x) [.rcells (y05 m_Lv ++ [.row 1, .row 2]), .row 6 m_Bv true, .row 0 m_Wv true]
def y6j (m_ : Int → T_assartref02_Layout → (List (List Int)) → (List Int) → Option Int) : Spec := ⟨y66 m_, (⟨true, fun i => false, fun i => Nat.beq i 0⟩ : RO)⟩
def y87 (m_ : Int → T_assartref02_Layout → (List (List Int)) → (List Int) → Option ((List (List Int)) × (List Int))) (args : List V) (H : Heap) (K : V → Heap → Prop) : Prop :=
  aC args fun a0 r => aC r fun a1 r => aN r <| aPtr 0 a0 <| aInt a1 fun iv => aC H fun b0 r => aC r fun b1 r => aC r fun b2 r => aN r <| bCells b0 fun U c0 => y1s (List.take 11 c0) fun m_Lv => aRest (List.drop 11 c0) fun r => aC r fun d0_11 r => aRow 1 d0_11 <| aC r fun d0_12 r => aRow 2 d0_12 <| aN r <| bRow 6 false b1 fun (m_Bv : List (List Int)) => bRow 0 false b2 fun (m_Wv : List Int) => So (m_ iv m_Lv m_Bv m_Wv) fun x => K (.tup []) [.cells U (y05 m_Lv ++ [.row 3, .row 4]), .dead, .dead, .row 6 x.1 false, .row 0 x.2 false]
def y7i (m_ : Int → T_assartref02_Layout → (List (List Int)) → (List Int) → Option ((List (List Int)) × (List Int))) : Spec := ⟨y87 m_, (⟨true, fun i => Nat.beq i 1 || Nat.beq i 2, fun _ => false⟩ : RO)⟩
def y6z (m_ : yc → T_api_Reply → T_assartref02_Layout → (List (List Int)) → (List Int) → Option Bool) (args : List V) (H : Heap) (K : V → Heap → Prop) : Prop :=
  aC args fun a0 r => aC r fun a1 r => aC r fun a2 r => aN r <| aPtr 0 a0 <| aAgg a1 fun c1 => y1z c1 fun c => aAgg a2 fun c2 => y24 c2 fun rv => aC H fun b0 r => aC r fun b1 r => aC r fun b2 r => aN r <| bRCells b0 fun c0 => y1s (List.take 11 c0) fun m_Lv => aRest (List.drop 11 c0) fun r => aC r fun d0_11 r => aRow 1 d0_11 <| aC r fun d0_12 r => aRow 2 d0_12 <| aN r <| bRow 6 true b1 fun (m_Bv : List (List Int)) => bRow 0 true b2 fun (m_Wv : List Int) => So (m_ c rv m_Lv m_Bv m_Wv) fun x => K (vb x) [.rcells (y05 m_Lv ++ [.row 1, .row 2]), .row 6 m_Bv true, .row 0 m_Wv true]
def yab (m_ : yc → T_api_Reply → T_assartref02_Layout → (List (List Int)) → (List Int) → Option Bool) : Spec := ⟨y6z m_, (⟨true, fun i => false, fun i => Nat.beq i 0⟩ : RO)⟩
def y67 (m_ : yc → T_api_Reply → T_assartref02_Layout → (List (List Int)) → (List Int) → Option (Bool × (List (List Int)) × (List Int))) (args : List V) (H : Heap) (K : V → Heap → Prop) : Prop :=
  aC args fun a0 r => aC r fun a1 r => aC r fun a2 r => aN r <| aPtr 0 a0 <| aAgg a1 fun c1 => y1z c1 fun c => aAgg a2 fun c2 => y24 c2 fun rv => aC H fun b0 r => aC r fun b1 r => aC r fun b2 r => aN r <| bCells b0 fun U c0 => y1s (List.take 11 c0) fun m_Lv => aRest (List.drop 11 c0) fun r => aC r fun d0_11 r => aRow 1 d0_11 <| aC r fun d0_12 r => aRow 2 d0_12 <| aN r <| bRow 6 false b1 fun (m_Bv : List (List Int)) => bRow 0 false b2 fun (m_Wv : List Int) => So (m_ c rv m_Lv m_Bv m_Wv) fun x => K (vb x.1) [.cells U (y05 m_Lv ++ [.row 3, .row 4]), .dead, .dead, .row 6 x.2.1 false, .row 0 x.2.2 false]
def y9r (m_ : yc → T_api_Reply → T_assartref02_Layout → (List (List Int)) → (List Int) → Option (Bool × (List (List Int)) × (List Int))) : Spec := ⟨y67 m_, (⟨true, fun i => Nat.beq i 1 || Nat.beq i 2, fun _ => false⟩ : RO)⟩
def y80 (m_ : yc → T_api_Reply → Int → T_assartref02_Layout → (List (List Int)) → (List Int) → Option (Bool × (List (List Int)) × (List Int))) (args : List V) (H : Heap) (K : V → Heap → Prop) : Prop :=
  aC args fun a0 r => aC r fun a1 r => aC r fun a2 r => aC r fun a3 r => aN r <| aPtr 0 a0 <| aAgg a1 fun c1 => y1z c1 fun c => aAgg a2 fun c2 => y24 c2 fun rv => aInt a3 fun iv => aC H fun b0 r => aC r fun b1 r => aC r fun b2 r => aN r <| bCells b0 fun U c0 => y1s (List.take 11 c0) fun m_Lv => aRest (List.drop 11 c0) fun r => aC r fun d0_11 r => aRow 1 d0_11 <| aC r fun d0_12 r => aRow 2 d0_12 <| aN r <| bRow 6 false b1 fun (m_Bv : List (List Int)) => bRow 0 false b2 fun (m_Wv : List Int) => So (m_ c rv iv m_Lv m_Bv m_Wv) fun x => K (vb x.1) [.cells U (y05 m_Lv ++ [.row 3, .row 4]), .dead, .dead, .row 6 x.2.1 false, .row 0 x.2.2 false]
def ya7 (m_ : yc → T_api_Reply → Int → T_assartref02_Layout → (List (List Int)) → (List Int) → Option (Bool × (List (List Int)) × (List Int))) : Spec := ⟨y80 m_, (⟨true, fun i => Nat.beq i 1 || Nat.beq i 2, fun _ => false⟩ : RO)⟩
def y74 (m_ : T_assartref02_Layout → (List (List Int)) → (List Int) → Option (Int × Int × Int)) (args : List V) (H : Heap) (K : V → Heap → Prop) : Prop :=
  aC args fun a0 r => aN r <| aPtr 0 a0 <| aC H fun b0 r => aC r fun b1 r => aC r fun b2 r => aN r <| bRCells b0 fun c0 => y1s (List.take 11 c0) fun m_Lv => aRest (List.drop 11 c0) fun r => aC r fun d0_11 r => aRow 1 d0_11 <| aC r fun d0_12 r => aRow 2 d0_12 <| aN r <| bRow 6 true b1 fun (m_Bv : List (List Int)) => bRow 0 true b2 fun (m_Wv : List Int) => So (m_ m_Lv m_Bv m_Wv) fun x => K (.tup [vi x.1, vi x.2.1, vi x.2.2]) [.rcells (y05 m_Lv ++ [.row 1, .row 2]), .row 6 m_Bv true, .row 0 m_Wv true]
def yd8 (m_ : T_assartref02_Layout → (List (List Int)) → (List Int) → Option (Int × Int × Int)) : Spec := ⟨y74 m_, (⟨true, fun i => false, fun i => Nat.beq i 0⟩ : RO)⟩
def y8x (m_ : yc → T_api_Reply → T_assartref02_Layout → (List (List Int)) → (List Int) → Option (Bool × (List (List Int)) × (List Int))) (args : List V) (H : Heap) (K : V → Heap → Prop) : Prop :=
  aC args fun a0 r => aC r fun a1 r => aC r fun a2 r => aN r <| aPtr 0 a0 <| aAgg a1 fun c1 => y1z c1 fun c => aAgg a2 fun c2 => y24 c2 fun rv => aC H fun b0 r => aC r fun b1 r => aC r fun b2 r => aN r <| bCells b0 fun U c0 => y1s (List.take 11 c0) fun m_Lv => aRest (List.drop 11 c0) fun r => aC r fun d0_11 r => aRow 1 d0_11 <| aC r fun d0_12 r => aRow 2 d0_12 <| aN r <| bRow 6 false b1 fun (m_Bv : List (List Int)) => bRow 0 false b2 fun (m_Wv : List Int) => So (m_ c rv m_Lv m_Bv m_Wv) fun x => K (vb x.1) [.cells U (y05 m_Lv ++ [.row 3, .row 4]), .dead, .dead, .row 6 x.2.1 false, .row 0 x.2.2 false]
def ydy (m_ : yc → T_api_Reply → T_assartref02_Layout → (List (List Int)) → (List Int) → Option (Bool × (List (List Int)) × (List Int))) : Spec := ⟨y8x m_, (⟨true, fun i => Nat.beq i 1 || Nat.beq i 2, fun _ => false⟩ : RO)⟩
def wk_ref20_New : List WK := [⟨true, 0, [], 0, 0, true⟩, ⟨true, 0, [], 11, 6, false⟩, ⟨true, 0, [], 12, 0, false⟩]
def ybz  : Cfg := { cfgB with
  sigs := sigN,
  plan := fun r => match r with | 2 => some (List.range 8, 0) | _ => none }
def y9z (y36 : Y18) : Cfg := { cfgB with
  sigs := (sigC 104 (ycx y36) sigN) }
def y3l  : Cfg := { cfgB with
  sigs := sigN,
  keep := fun r => match r with | 2 => some [(0, none), (1, none), (5, none)] | _ => none }
def y3c  : Cfg := { cfgB with
  sigs := sigN,
  keep := fun r => match r with | 2 => some [(0, none), (1, none), (5, none)] | _ => none,
  plan := fun r => match r with | 4 => some (List.range 31, 0) | _ => none }
def wk_ref20_Model_without : List WK := [⟨false, 0, [], 11, 6, false⟩, ⟨false, 1, [], 0, 1, true⟩, ⟨false, 0, [], 12, 0, false⟩, ⟨false, 2, [], 0, 1, true⟩]
def yda  : Cfg := { cfgB with
  sigs := sigN,
  plan := fun r => match r with | 0 => some ([0, 2, 3, 4, 5, 6, 7, 9, 10, 11, 12, 13, 14, 15, 1, 8, 16, 17, 18, 19], 43980465111041) | _ => none }
def y29 (y00 : Y10) (yr y0m : Y0) (y0o : Int → T_assartref02_Layout → (List (List Int)) → (List Int) → Option Int) : Cfg := { cfgB with
  sigs := (sigC 85 (y6k y00) (sigC 12 (y4x yr) (sigC 53 (yct y0m) (sigC 50 (y6j y0o) sigN)))),
  keep := fun r => match r with | 8 => some [(0, none), (5, none), (8, none), (9, none)] | _ => none,
  plan := fun r => match r with | 5 => some ([0, 1, 2, 3, 4, 5, 6, 7, 8, 9, 10, 11, 12, 13, 14, 15, 16, 17, 18, 19, 20, 21, 22, 23, 24, 25, 26, 27, 28, 29, 30, 31, 32, 33, 34, 35, 37, 38, 36, 39, 40, 41, 42, 43, 44, 45, 46, 47, 48], 0) | _ => none }
def wk_ref20_Model_news : List WK := [⟨false, 0, [], 11, 6, false⟩, ⟨false, 1, [], 0, 1, true⟩, ⟨false, 0, [], 12, 0, false⟩, ⟨false, 2, [], 0, 1, true⟩]
def y3e (y1k : yc → T_api_Reply → T_assartref02_Layout → (List (List Int)) → (List Int) → Option Bool) (yr : Y0) : Cfg := { cfgB with
  sigs := (sigC 84 (yab y1k) (sigC 12 (y4x yr) sigN)),
  keep := fun r => match r with | 7 => some [(0, none), (4, none), (5, none), (7, none), (8, none)] | _ => none,
  plan := fun r => match r with | 5 => some (List.range 9, 0) | _ => none,
  planT := fun r => match r with | 10 => some ((chainT [0, 2, 3, 4, 5, 7, 8, 9, 10, 11, 12, 13] (.alt (chainT [1] (.alt (chainT [6, 14, 15, 16, 17, 18] .fin) (chainT [14, 6, 15, 16, 17, 18] .fin))) (chainT [14, 1, 6, 15, 16, 17, 18] .fin))), 41781441855489) | _ => none }
def wk_ref20_Model_again : List WK := [⟨false, 0, [], 11, 6, false⟩, ⟨false, 1, [], 0, 1, true⟩, ⟨false, 0, [], 12, 0, false⟩, ⟨false, 2, [], 0, 1, true⟩]
def y3o (y00 : Y10) (y0g : Int → T_assartref02_Layout → (List (List Int)) → (List Int) → Option ((List (List Int)) × (List Int))) (y0f : yc → T_api_Reply → T_assartref02_Layout → (List (List Int)) → (List Int) → Option (Bool × (List (List Int)) × (List Int))) (yr : Y0) (y0n : Int → T_assartref02_Layout → (List (List Int)) → (List Int) → Option Int) : Cfg := { cfgB with
  sigs := (sigC 85 (y6k y00) (sigC 47 (y7i y0g) (sigC 45 (y9r y0f) (sigC 12 (y4x yr) (sigC 44 (y7d y0n) sigN))))),
  keep := fun r => match r with | 14 => some [(0, none), (5, none), (9, none), (10, none), (11, none), (12, none)] | _ => none,
  plan := fun r => match r with | 2 => some ([0, 1, 3, 4, 2, 5], 0) | 6 => some (List.range 17, 37383395344385) | 11 => some (List.range 9, 0) | 12 => some (List.range 9, 0) | 16 => some (List.range 18, 39582418599936) | _ => none }
def y3m  : Cfg := { cfgB with
  sigs := sigN,
  keep := fun r => match r with | 4 => some [(0, none), (5, none), (6, none), (7, none)] | _ => none }
def wk_ref20_Model_Step : List WK := [⟨false, 0, [], 11, 6, false⟩, ⟨false, 0, [], 12, 0, false⟩]
def ya5 (y2b : Y12) (y0n : Int → T_assartref02_Layout → (List (List Int)) → (List Int) → Option Int) (y0f : yc → T_api_Reply → T_assartref02_Layout → (List (List Int)) → (List Int) → Option (Bool × (List (List Int)) × (List Int))) (y32 : yc → T_api_Reply → Int → T_assartref02_Layout → (List (List Int)) → (List Int) → Option (Bool × (List (List Int)) × (List Int))) (y0g : Int → T_assartref02_Layout → (List (List Int)) → (List Int) → Option ((List (List Int)) × (List Int))) (y2y : T_assartref02_Layout → (List (List Int)) → (List Int) → Option (Int × Int × Int)) (y2g : Y25) (y0o : Int → T_assartref02_Layout → (List (List Int)) → (List Int) → Option Int) (yr : Y0) : Cfg := { cfgB with
  sigs := (sigC 43 (yad y2b) (sigC 44 (y7d y0n) (sigC 45 (y9r y0f) (sigC 46 (ya7 y32) (sigC 47 (y7i y0g) (sigC 48 (yd8 y2y) (sigC 49 (ycd y2g) (sigC 50 (y6j y0o) (sigC 12 (y4x yr) sigN))))))))),
  plan := fun r => match r with | 4 => some (List.range 6, 0) | 29 => some (List.range 12, 0) | 34 => some (List.range 22, 0) | 38 => some (List.range 38, 0) | 41 => some (List.range 9, 0) | 43 => some (List.range 11, 0) | 46 => some (List.range 9, 19791209299968) | _ => none }
theorem yj1 (c : yb) (K : V → Heap → Prop) : (exFW ybz [] wk_ref20_New Try.f11 [.agg (yl c)] [] K) = (
    Req (decide (0 ≤ IntKind.i64.wrap (32 * c.Pages) ∧ IntKind.i64.wrap (32 * c.Pages) ≤ IntKind.i64.wrap (32 * c.Pages) ∧ IntKind.i64.wrap (32 * c.Pages) ≤ 1048576)) (K (.ptr 0 0) [.cells 0 (yl c ++ [.row 1, .row 2]), .row 6 ([] : List (List Int)) false, .row 0 (List.replicate (Int.toNat (IntKind.i64.wrap ((32 : Int) * c.Pages))) (0 : Int) : List Int) false])) := by kernel_rfl
theorem yhf (y36 : Y18) (n align : Int) (K : V → Heap → Prop) : (exF (y9z y36) Try.f85 [vi n, vi align] [] K) = (
    br (decide (n > 1048576)) (K (vi 0) []) (So (y36 n align) (fun (y0 : Int × Int) => (K (vi y0.1) [])))) := by kernel_rfl
theorem yh6 (a : Int) (m_Lv : T_assartref02_Layout) (m_Bv : List (List Int)) (m_Wv : List Int) (iv : Int) (K : V → Heap → Prop) (J1 : Env → Heap → Prop) : (ex y3l (⟨26, 3⟩ : Cx) (at_ (bodyOf Try.f44) [1, 0, 1, 0, 0]) (mkEnv [(0, .ptr 0 0), (1, vi a), (5, vi iv)]) [.rcells (yl (Go.Rx.T_assartref02_Layout.C m_Lv) ++ [.row 1, .row 2]), .row 6 m_Bv true, .row 0 m_Wv true] (roundK y3l (⟨26, 3⟩ : Cx) (at_ (bodyOf Try.f44) [1, 0, 1, 0, 0]) (contK y3l (⟨26, 3⟩ : Cx) (bodyOf Try.f44) [1, 0, 1, 0] (retK y3l Try.f44 3 K)) J1)) = (
    br (decide (iv < (↑m_Bv.length : Int))) (Req (inR iv m_Bv.length) (Req (inR (offs iv 0) m_Bv.length) (br (List.getD (m_Bv.getD (Int.toNat (offs iv (0 : Nat))) (List.replicate (3 : Nat) (0 : Int))) (0 : Nat) (0 : Int) == a) (K (vi iv) [.rcells (yl m_Lv.C ++ [.row 1, .row 2]), .row 6 m_Bv true, .row 0 m_Wv true]) (J1 (mkEnv [(0, .ptr 0 0), (1, vi a), (5, vi (IntKind.i64.wrap (iv + 1)))]) [.rcells (yl m_Lv.C ++ [.row 1, .row 2]), .row 6 m_Bv true, .row 0 m_Wv true])))) (K (vi (-1)) [.rcells (yl m_Lv.C ++ [.row 1, .row 2]), .row 6 m_Bv true, .row 0 m_Wv true])) := by kernel_rfl
theorem yfz (a : Int) (m_Lv : T_assartref02_Layout) (m_Bv : List (List Int)) (m_Wv : List Int) (K : V → Heap → Prop) : (exF y3l Try.f44 [.ptr 0 0, vi a] [.rcells (y05 m_Lv ++ [.row 1, .row 2]), .row 6 m_Bv true, .row 0 m_Wv true] K) = (
    Loop y3l (⟨26, 3⟩ : Cx) (at_ (bodyOf Try.f44) [1, 0, 1, 0, 0]) (mkEnv [(0, .ptr 0 0), (1, vi a), (5, vi 0)]) [.rcells (yl m_Lv.C ++ [.row 1, .row 2]), .row 6 m_Bv true, .row 0 m_Wv true] (contK y3l (⟨26, 3⟩ : Cx) (bodyOf Try.f44) [1, 0, 1, 0] (retK y3l Try.f44 3 K))) := by kernel_rfl
theorem yf0 (a : Int) (m_Lv : T_assartref02_Layout) (m_Bv : List (List Int)) (m_Wv : List Int) (iv : Int) (K : V → Heap → Prop) (J1 : Env → Heap → Prop) : (ex y3c (⟨47, 3⟩ : Cx) (at_ (bodyOf Try.f50) [1, 0, 1, 0, 0]) (mkEnv [(0, .ptr 0 0), (1, vi a), (5, vi iv)]) [.rcells (yl (Go.Rx.T_assartref02_Layout.C m_Lv) ++ [.row 1, .row 2]), .row 6 m_Bv true, .row 0 m_Wv true] (roundK y3c (⟨47, 3⟩ : Cx) (at_ (bodyOf Try.f50) [1, 0, 1, 0, 0]) (contK y3c (⟨47, 3⟩ : Cx) (bodyOf Try.f50) [1, 0, 1, 0] (retK y3c Try.f50 3 K)) J1)) = (
    br (decide (iv < (↑m_Bv.length : Int))) (Req (inR iv m_Bv.length) (Req (inR (offs iv 0) m_Bv.length) (br (decide (a ≥ List.getD (m_Bv.getD (Int.toNat (offs iv (0 : Nat))) (List.replicate (3 : Nat) (0 : Int))) (0 : Nat) (0 : Int))) (Req (inR iv m_Bv.length) (Req (inR (offs iv 0) m_Bv.length) (Req (inR iv m_Bv.length) (Req (inR (offs iv 0) m_Bv.length) (br (decide (a < IntKind.i64.wrap (List.getD (m_Bv.getD (Int.toNat (offs iv (0 : Nat))) (List.replicate (3 : Nat) (0 : Int))) (0 : Nat) (0 : Int) + List.getD (m_Bv.getD (Int.toNat (offs iv (0 : Nat))) (List.replicate (3 : Nat) (0 : Int))) (2 : Nat) (0 : Int)))) (K (vi iv) [.rcells (yl m_Lv.C ++ [.row 1, .row 2]), .row 6 m_Bv true, .row 0 m_Wv true]) (J1 (mkEnv [(0, .ptr 0 0), (1, vi a), (5, vi (IntKind.i64.wrap (iv + 1)))]) [.rcells (yl m_Lv.C ++ [.row 1, .row 2]), .row 6 m_Bv true, .row 0 m_Wv true])))))) (J1 (mkEnv [(0, .ptr 0 0), (1, vi a), (5, vi (IntKind.i64.wrap (iv + 1)))]) [.rcells (yl m_Lv.C ++ [.row 1, .row 2]), .row 6 m_Bv true, .row 0 m_Wv true])))) (K (vi (-1)) [.rcells (yl m_Lv.C ++ [.row 1, .row 2]), .row 6 m_Bv true, .row 0 m_Wv true])) := by kernel_rfl
theorem ygb (a : Int) (m_Lv : T_assartref02_Layout) (m_Bv : List (List Int)) (m_Wv : List Int) (K : V → Heap → Prop) : (exF y3c Try.f50 [.ptr 0 0, vi a] [.rcells (y05 m_Lv ++ [.row 1, .row 2]), .row 6 m_Bv true, .row 0 m_Wv true] K) = (
    Loop y3c (⟨47, 3⟩ : Cx) (at_ (bodyOf Try.f50) [1, 0, 1, 0, 0]) (mkEnv [(0, .ptr 0 0), (1, vi a), (5, vi 0)]) [.rcells (yl m_Lv.C ++ [.row 1, .row 2]), .row 6 m_Bv true, .row 0 m_Wv true] (contK y3c (⟨47, 3⟩ : Cx) (bodyOf Try.f50) [1, 0, 1, 0] (retK y3c Try.f50 3 K))) := by kernel_rfl
theorem yer (iv : Int) (m_Lv : T_assartref02_Layout) (m_Bv : List (List Int)) (m_Wv : List Int) (U : TypeId) (K : V → Heap → Prop) : (exFW yda [] wk_ref20_Model_without Try.f47 [.ptr 0 0, vi iv] [.cells U (y05 m_Lv ++ [.row 1, .row 2]), .row 6 m_Bv false, .row 0 m_Wv false] K) = (
    Req (decide (0 ≤ iv ∧ iv ≤ (↑m_Bv.length : Int))) (Req (decide (0 ≤ IntKind.i64.wrap (iv + 1) ∧ IntKind.i64.wrap (iv + 1) ≤ (↑m_Bv.length : Int))) (Req (decide (0 + Int.toNat iv ≤ m_Bv.length)) (Req (decide (0 + List.length (List.take (Int.toNat iv) (List.drop 0 m_Bv)) ≤ 1048576)) (Req (decide (Int.toNat (IntKind.i64.wrap (iv + 1)) + (m_Bv.length - Int.toNat (IntKind.i64.wrap (iv + 1))) ≤ m_Bv.length)) (Req (decide (List.length (List.take (Int.toNat iv) (List.drop 0 m_Bv)) + List.length (List.take (m_Bv.length - Int.toNat (IntKind.i64.wrap (iv + 1))) (List.drop (Int.toNat (IntKind.i64.wrap (iv + 1))) m_Bv)) ≤ 1048576)) (K (.tup []) [.cells U (yl m_Lv.C ++ [.row 3, .row 4]), .dead, .dead, .row 6 (List.take (Int.toNat iv) (List.drop 0 m_Bv) ++ List.take (m_Bv.length - Int.toNat (IntKind.i64.wrap (iv + 1))) (List.drop (Int.toNat (IntKind.i64.wrap (iv + 1))) m_Bv) : List (List Int)) false, .row 0 m_Wv false]))))))) := by kernel_rfl
theorem yg7 (y00 : Y10) (yr y0m : Y0) (y0o : Int → T_assartref02_Layout → (List (List Int)) → (List Int) → Option Int) (c : yc) (rv : T_api_Reply) (m_Lv : T_assartref02_Layout) (m_Bv : List (List Int)) (m_Wv : List Int) (want a : Int) (K : V → Heap → Prop) (J1 : Env → Heap → Prop) : (ex (y29 y00 yr y0m y0o) (⟨82, 3⟩ : Cx) (at_ (bodyOf Try.f84) [1, 1, 1, 1, 1, 0, 1, 0, 0]) (mkEnv [(0, .ptr 0 0), (5, .ptr 3 0), (8, vi want), (9, vi a)]) [.rcells (yl (Go.Rx.T_assartref02_Layout.C m_Lv) ++ [.row 1, .row 2]), .row 6 m_Bv true, .row 0 m_Wv true, .cells 46 (y07 rv)] (roundK (y29 y00 yr y0m y0o) (⟨82, 3⟩ : Cx) (at_ (bodyOf Try.f84) [1, 1, 1, 1, 1, 0, 1, 0, 0]) (contK (y29 y00 yr y0m y0o) (⟨82, 3⟩ : Cx) (bodyOf Try.f84) [1, 1, 1, 1, 1, 0, 1, 0] (retK (y29 y00 yr y0m y0o) Try.f84 3 K)) J1)) = (
    br (decide (a < IntKind.i64.wrap (rv.Addr + want))) (So (y0o a m_Lv m_Bv m_Wv) (fun (y0 : Int) => (br (decide (y0 ≥ 0)) (K (vb false) [.rcells (yl m_Lv.C ++ [.row 1, .row 2]), .row 6 m_Bv true, .row 0 m_Wv true]) (J1 (mkEnv [(0, .ptr 0 0), (5, .ptr 3 0), (8, vi want), (9, vi (IntKind.i64.wrap (a + 1)))]) [.rcells (yl m_Lv.C ++ [.row 1, .row 2]), .row 6 m_Bv true, .row 0 m_Wv true, .cells 46 (y07 rv)])))) (K (vb true) [.rcells (yl m_Lv.C ++ [.row 1, .row 2]), .row 6 m_Bv true, .row 0 m_Wv true])) := by kernel_rfl
theorem yeq (y00 : Y10) (yr y0m : Y0) (y0o : Int → T_assartref02_Layout → (List (List Int)) → (List Int) → Option Int) (c : yc) (rv : T_api_Reply) (m_Lv : T_assartref02_Layout) (m_Bv : List (List Int)) (m_Wv : List Int) (K : V → Heap → Prop) : (exF (y29 y00 yr y0m y0o) Try.f84 [.ptr 0 0, .agg (y0p c), .agg (y07 rv)] [.rcells (y05 m_Lv ++ [.row 1, .row 2]), .row 6 m_Bv true, .row 0 m_Wv true] K) = (
    br (c.Kind == 5) (So (y00 c.Size c.Align) (fun (y0 : Int) => (br (y0 == 0) (K (vb false) [.rcells (yl m_Lv.C ++ [.row 1, .row 2]), .row 6 m_Bv true, .row 0 m_Wv true]) (br (!(rv.Err == 0 && (rv.Addr == rv.Addr && (rv.Size == y0 && (rv.Value == 0 && (rv.Stats.Blocks == 0 && (rv.Stats.Asked == 0 && (rv.Stats.Words == 0 && (rv.Stats.Kept == 0 && (rv.Stats.Open == 0 && (rv.Stats.Mapped == 0 && (rv.Stats.Used == 0 && true)))))) && true)))))) (K (vb false) [.rcells (yl m_Lv.C ++ [.row 1, .row 2]), .row 6 m_Bv true, .row 0 m_Wv true]) (So (yr m_Lv) (fun (y1 : Int) => (br (decide (rv.Addr < y1)) (K (vb false) [.rcells (yl m_Lv.C ++ [.row 1, .row 2]), .row 6 m_Bv true, .row 0 m_Wv true]) (So (y0m m_Lv) (fun (y2 : Int) => (br (decide (rv.Addr ≥ y2)) (K (vb false) [.rcells (yl m_Lv.C ++ [.row 1, .row 2]), .row 6 m_Bv true, .row 0 m_Wv true]) (So (y0m m_Lv) (fun (y3 : Int) => (br (decide (y0 > IntKind.i64.wrap (y3 - rv.Addr))) (K (vb false) [.rcells (yl m_Lv.C ++ [.row 1, .row 2]), .row 6 m_Bv true, .row 0 m_Wv true]) (Req (!c.Align == 0) (br (Int.tmod rv.Addr c.Align != 0) (K (vb false) [.rcells (yl m_Lv.C ++ [.row 1, .row 2]), .row 6 m_Bv true, .row 0 m_Wv true]) (Loop (y29 y00 yr y0m y0o) (⟨82, 3⟩ : Cx) (at_ (bodyOf Try.f84) [1, 1, 1, 1, 1, 0, 1, 0, 0]) (mkEnv [(0, .ptr 0 0), (5, .ptr 3 0), (8, vi y0), (9, vi rv.Addr)]) [.rcells (yl m_Lv.C ++ [.row 1, .row 2]), .row 6 m_Bv true, .row 0 m_Wv true, .cells 46 (y07 rv)] (contK (y29 y00 yr y0m y0o) (⟨82, 3⟩ : Cx) (bodyOf Try.f84) [1, 1, 1, 1, 1, 0, 1, 0] (retK (y29 y00 yr y0m y0o) Try.f84 3 K)))))))))))))))))) (So (y00 c.Size 1) (fun (y4 : Int) => (br (y4 == 0) (K (vb false) [.rcells (yl m_Lv.C ++ [.row 1, .row 2]), .row 6 m_Bv true, .row 0 m_Wv true]) (br (!(rv.Err == 0 && (rv.Addr == rv.Addr && (rv.Size == y4 && (rv.Value == 0 && (rv.Stats.Blocks == 0 && (rv.Stats.Asked == 0 && (rv.Stats.Words == 0 && (rv.Stats.Kept == 0 && (rv.Stats.Open == 0 && (rv.Stats.Mapped == 0 && (rv.Stats.Used == 0 && true)))))) && true)))))) (K (vb false) [.rcells (yl m_Lv.C ++ [.row 1, .row 2]), .row 6 m_Bv true, .row 0 m_Wv true]) (So (yr m_Lv) (fun (y5 : Int) => (br (decide (rv.Addr < y5)) (K (vb false) [.rcells (yl m_Lv.C ++ [.row 1, .row 2]), .row 6 m_Bv true, .row 0 m_Wv true]) (So (y0m m_Lv) (fun (y6 : Int) => (br (decide (rv.Addr ≥ y6)) (K (vb false) [.rcells (yl m_Lv.C ++ [.row 1, .row 2]), .row 6 m_Bv true, .row 0 m_Wv true]) (So (y0m m_Lv) (fun (y7 : Int) => (br (decide (y4 > IntKind.i64.wrap (y7 - rv.Addr))) (K (vb false) [.rcells (yl m_Lv.C ++ [.row 1, .row 2]), .row 6 m_Bv true, .row 0 m_Wv true]) (br (Int.tmod rv.Addr 1 != 0) (K (vb false) [.rcells (yl m_Lv.C ++ [.row 1, .row 2]), .row 6 m_Bv true, .row 0 m_Wv true]) (Loop (y29 y00 yr y0m y0o) (⟨82, 3⟩ : Cx) (at_ (bodyOf Try.f84) [1, 1, 1, 1, 1, 0, 1, 0, 0]) (mkEnv [(0, .ptr 0 0), (5, .ptr 3 0), (8, vi y4), (9, vi rv.Addr)]) [.rcells (yl m_Lv.C ++ [.row 1, .row 2]), .row 6 m_Bv true, .row 0 m_Wv true, .cells 46 (y07 rv)] (contK (y29 y00 yr y0m y0o) (⟨82, 3⟩ : Cx) (bodyOf Try.f84) [1, 1, 1, 1, 1, 0, 1, 0] (retK (y29 y00 yr y0m y0o) Try.f84 3 K)))))))))))))))))) := by kernel_rfl
theorem yfi (y1k : yc → T_api_Reply → T_assartref02_Layout → (List (List Int)) → (List Int) → Option Bool) (yr : Y0) (c : yc) (rv : T_api_Reply) (m_Lv : T_assartref02_Layout) (m_Bv : List (List Int)) (m_Wv : List Int) (U : TypeId) (fromv iv : Int) (m_Wvv : List Int) (K : V → Heap → Prop) (J1 : Env → Heap → Prop) : (ex (y3e y1k yr) (⟨62, 3⟩ : Cx) (at_ (bodyOf Try.f45) [1, 1, 1, 1, 0, 1, 0, 0]) (mkEnv [(0, .ptr 0 0), (4, .ptr 3 0), (5, .ptr 4 0), (7, vi fromv), (8, vi iv)]) [.cells U (yl (Go.Rx.T_assartref02_Layout.C m_Lv) ++ [.row 1, .row 2]), .row 6 m_Bv false, .row 0 m_Wvv false, .cells 42 (y0p c), .cells 46 (y07 rv)] (roundK (y3e y1k yr) (⟨62, 3⟩ : Cx) (at_ (bodyOf Try.f45) [1, 1, 1, 1, 0, 1, 0, 0]) (contK (y3e y1k yr) (⟨62, 3⟩ : Cx) (bodyOf Try.f45) [1, 1, 1, 1, 0, 1, 0] (retW (y3e y1k yr) wk_ref20_Model_news Try.f45 3 K)) J1)) = (
    br (decide (iv < rv.Size)) (br (c.Kind == 3) (Req (inR (IntKind.i64.wrap (fromv + iv)) m_Wvv.length) (Req (inR (offs (IntKind.i64.wrap (fromv + iv)) 0) m_Wvv.length) (J1 (mkEnv [(0, .ptr 0 0), (4, .ptr 3 0), (5, .ptr 4 0), (7, vi fromv), (8, vi (IntKind.i64.wrap (iv + 1)))]) [.cells U (yl m_Lv.C ++ [.row 1, .row 2]), .row 6 m_Bv false, .row 0 (List.set m_Wvv (Int.toNat (offs (IntKind.i64.wrap (fromv + iv)) 0)) 0 : List Int) false, .cells 42 (y0p c), .cells 46 (y07 rv)]))) (((Req (decide (0 + m_Bv.length ≤ 1048576)) (Req (decide (m_Bv.length + 1 ≤ 1048576)) (K (vb true) [.cells U (yl m_Lv.C ++ [.row 3, .row 4]), .dead, .dead, .row 6 (m_Bv ++ [[rv.Addr, c.Size, rv.Size]] : List (List Int)) false, .row 0 m_Wvv false]))) ∧ (Req (decide (0 + m_Bv.length ≤ 1048576)) (Req (decide (m_Bv.length + 1 ≤ 1048576)) (K (vb true) [.cells U (yl m_Lv.C ++ [.row 3, .row 4]), .dead, .dead, .row 6 (m_Bv ++ [[rv.Addr, c.Size, rv.Size]] : List (List Int)) false, .row 0 m_Wvv false])))) ∧ (Req (decide (0 + m_Bv.length ≤ 1048576)) (Req (decide (m_Bv.length + 1 ≤ 1048576)) (K (vb true) [.cells U (yl m_Lv.C ++ [.row 3, .row 4]), .dead, .dead, .row 6 (m_Bv ++ [[rv.Addr, c.Size, rv.Size]] : List (List Int)) false, .row 0 m_Wvv false]))))) (((Req (decide (0 + m_Bv.length ≤ 1048576)) (Req (decide (m_Bv.length + 1 ≤ 1048576)) (K (vb true) [.cells U (yl m_Lv.C ++ [.row 3, .row 4]), .dead, .dead, .row 6 (m_Bv ++ [[rv.Addr, c.Size, rv.Size]] : List (List Int)) false, .row 0 m_Wvv false]))) ∧ (Req (decide (0 + m_Bv.length ≤ 1048576)) (Req (decide (m_Bv.length + 1 ≤ 1048576)) (K (vb true) [.cells U (yl m_Lv.C ++ [.row 3, .row 4]), .dead, .dead, .row 6 (m_Bv ++ [[rv.Addr, c.Size, rv.Size]] : List (List Int)) false, .row 0 m_Wvv false])))) ∧ (Req (decide (0 + m_Bv.length ≤ 1048576)) (Req (decide (m_Bv.length + 1 ≤ 1048576)) (K (vb true) [.cells U (yl m_Lv.C ++ [.row 3, .row 4]), .dead, .dead, .row 6 (m_Bv ++ [[rv.Addr, c.Size, rv.Size]] : List (List Int)) false, .row 0 m_Wvv false]))))) := by kernel_rfl
theorem ygs (y1k : yc → T_api_Reply → T_assartref02_Layout → (List (List Int)) → (List Int) → Option Bool) (yr : Y0) (c : yc) (rv : T_api_Reply) (m_Lv : T_assartref02_Layout) (m_Bv : List (List Int)) (m_Wv : List Int) (U : TypeId) (K : V → Heap → Prop) : (exFW (y3e y1k yr) [] wk_ref20_Model_news Try.f45 [.ptr 0 0, .agg (y0p c), .agg (y07 rv)] [.cells U (y05 m_Lv ++ [.row 1, .row 2]), .row 6 m_Bv false, .row 0 m_Wv false] K) = (
    br (rv.Err == 6 && (rv.Addr == 0 && (rv.Size == 0 && (rv.Value == 0 && (rv.Stats.Blocks == 0 && (rv.Stats.Asked == 0 && (rv.Stats.Words == 0 && (rv.Stats.Kept == 0 && (rv.Stats.Open == 0 && (rv.Stats.Mapped == 0 && (rv.Stats.Used == 0 && true)))))) && true))))) (K (vb true) [.cells U (yl m_Lv.C ++ [.row 3, .row 4]), .dead, .dead, .row 6 m_Bv false, .row 0 m_Wv false]) (So (y1k c rv m_Lv m_Bv m_Wv) (fun (y0 : Bool) => (br (!y0) (K (vb false) [.cells U (yl m_Lv.C ++ [.row 3, .row 4]), .dead, .dead, .row 6 m_Bv false, .row 0 m_Wv false]) (So (yr m_Lv) (fun (y1 : Int) => (Loop (y3e y1k yr) (⟨62, 3⟩ : Cx) (at_ (bodyOf Try.f45) [1, 1, 1, 1, 0, 1, 0, 0]) (mkEnv [(0, .ptr 0 0), (4, .ptr 3 0), (5, .ptr 4 0), (7, vi (IntKind.i64.wrap (rv.Addr - y1))), (8, vi 0)]) [.cells U (yl m_Lv.C ++ [.row 1, .row 2]), .row 6 m_Bv false, .row 0 m_Wv false, .cells 42 (y0p c), .cells 46 (y07 rv)] (contK (y3e y1k yr) (⟨62, 3⟩ : Cx) (bodyOf Try.f45) [1, 1, 1, 1, 0, 1, 0] (retW (y3e y1k yr) wk_ref20_Model_news Try.f45 3 K))))))))) := by kernel_rfl
theorem yid (y00 : Y10) (y0g : Int → T_assartref02_Layout → (List (List Int)) → (List Int) → Option ((List (List Int)) × (List Int))) (y0f : yc → T_api_Reply → T_assartref02_Layout → (List (List Int)) → (List Int) → Option (Bool × (List (List Int)) × (List Int))) (yr : Y0) (y0n : Int → T_assartref02_Layout → (List (List Int)) → (List Int) → Option Int) (c : yc) (rv : T_api_Reply) (iv : Int) (m_Lv : T_assartref02_Layout) (m_Bv : List (List Int)) (m_Wv : List Int) (U : TypeId) (to fromv k : Int) (c2 : y34) (w : List (List Int)) (w2 : List Int) (K : V → Heap → Prop) (J1 : Env → Heap → Prop) : (ex (y3o y00 y0g y0f yr y0n) (⟨111, 3⟩ : Cx) (at_ (bodyOf Try.f46) [1, 1, 1, 1, 0, 1, 0, 1, 1, 0, 1, 0, 0]) (mkEnv [(0, .ptr 0 0), (5, .ptr 3 0), (9, .ptr 4 0), (10, vi to), (11, vi fromv), (12, vi k)]) [.cells U (yl (Go.Rx.T_assartref02_Layout.C m_Lv) ++ [.row 5, .row 6]), .dead, .dead, .cells 42 (y0p c), .cells 59 (y5n c2), .row 6 w false, .row 0 w2 false] (roundK (y3o y00 y0g y0f yr y0n) (⟨111, 3⟩ : Cx) (at_ (bodyOf Try.f46) [1, 1, 1, 1, 0, 1, 0, 1, 1, 0, 1, 0, 0]) (contK (y3o y00 y0g y0f yr y0n) (⟨111, 3⟩ : Cx) (bodyOf Try.f46) [1, 1, 1, 1, 0, 1, 0, 1, 1, 0, 1, 0] (retW (y3o y00 y0g y0f yr y0n) wk_ref20_Model_again Try.f46 3 K)) J1)) = (
    br (decide (k < c2.Asked)) (br (decide (k < c.Size)) (Req (inR (IntKind.i64.wrap (fromv + k)) w2.length) (Req (inR (offs (IntKind.i64.wrap (fromv + k)) 0) w2.length) (Req (inR (IntKind.i64.wrap (to + k)) w2.length) (Req (inR (offs (IntKind.i64.wrap (to + k)) 0) w2.length) (J1 (mkEnv [(0, .ptr 0 0), (5, .ptr 3 0), (9, .ptr 4 0), (10, vi to), (11, vi fromv), (12, vi (IntKind.i64.wrap (k + 1)))]) [.cells U (yl m_Lv.C ++ [.row 5, .row 6]), .dead, .dead, .cells 42 (y0p c), .cells 59 (y5n c2), .row 6 w false, .row 0 (List.set w2 (Int.toNat (offs (IntKind.i64.wrap (to + k)) 0)) (w2.getD (Int.toNat (offs (IntKind.i64.wrap (fromv + k)) 0)) 0) : List Int) false]))))) (So (y0n c2.A m_Lv w w2) (fun (y0 : Int) => (So (y0g y0 m_Lv w w2) (fun (y1 : List (List Int) × List Int) => (K (vb true) [.cells U (yl m_Lv.C ++ [.row 3, .row 4]), .dead, .dead, .row 6 (y1.1 : List (List Int)) false, .row 0 (y1.2 : List Int) false])))))) (So (y0n c2.A m_Lv w w2) (fun (y2 : Int) => (So (y0g y2 m_Lv w w2) (fun (y3 : List (List Int) × List Int) => (K (vb true) [.cells U (yl m_Lv.C ++ [.row 3, .row 4]), .dead, .dead, .row 6 (y3.1 : List (List Int)) false, .row 0 (y3.2 : List Int) false])))))) := by kernel_rfl
theorem yev (y00 : Y10) (y0g : Int → T_assartref02_Layout → (List (List Int)) → (List Int) → Option ((List (List Int)) × (List Int))) (y0f : yc → T_api_Reply → T_assartref02_Layout → (List (List Int)) → (List Int) → Option (Bool × (List (List Int)) × (List Int))) (yr : Y0) (y0n : Int → T_assartref02_Layout → (List (List Int)) → (List Int) → Option Int) (c : yc) (rv : T_api_Reply) (iv : Int) (m_Lv : T_assartref02_Layout) (m_Bv : List (List Int)) (m_Wv : List Int) (U : TypeId) (K : V → Heap → Prop) : (exFW (y3o y00 y0g y0f yr y0n) [] wk_ref20_Model_again Try.f46 [.ptr 0 0, .agg (y0p c), .agg (y07 rv), vi iv] [.cells U (y05 m_Lv ++ [.row 1, .row 2]), .row 6 m_Bv false, .row 0 m_Wv false] K) = (
    Req (inR iv m_Bv.length) (Req (inR (offs iv 0) m_Bv.length) (So (y00 c.Size 1) (fun (y0 : Int) => (br (y0 == List.getD (m_Bv.getD (Int.toNat (offs iv (0 : Nat))) (List.replicate (3 : Nat) (0 : Int))) (2 : Nat) (0 : Int)) (br (!(rv.Err == (0 : Int) && (rv.Addr == List.getD (m_Bv.getD (Int.toNat (offs iv (0 : Nat))) (List.replicate (3 : Nat) (0 : Int))) (0 : Nat) (0 : Int) && (rv.Size == List.getD (m_Bv.getD (Int.toNat (offs iv (0 : Nat))) (List.replicate (3 : Nat) (0 : Int))) (2 : Nat) (0 : Int) && (rv.Value == (0 : Int) && (rv.Stats.Blocks == (0 : Int) && (rv.Stats.Asked == (0 : Int) && (rv.Stats.Words == (0 : Int) && (rv.Stats.Kept == (0 : Int) && (rv.Stats.Open == (0 : Int) && (rv.Stats.Mapped == (0 : Int) && (rv.Stats.Used == (0 : Int) && true)))))) && true)))))) (K (vb false) [.cells U (yl m_Lv.C ++ [.row 3, .row 4]), .dead, .dead, .row 6 m_Bv false, .row 0 m_Wv false]) (So (y0g iv m_Lv m_Bv m_Wv) (fun (y1 : List (List Int) × List Int) => (Req (decide (y1.1.length + 1 ≤ 1048576)) (K (vb true) [.cells U (yl m_Lv.C ++ [.row 3, .row 4]), .dead, .dead, .row 6 (y1.1 ++ [[List.getD (m_Bv.getD (Int.toNat (offs iv (0 : Nat))) (List.replicate (3 : Nat) (0 : Int))) (0 : Nat) (0 : Int), c.Size, List.getD (m_Bv.getD (Int.toNat (offs iv (0 : Nat))) (List.replicate (3 : Nat) (0 : Int))) (2 : Nat) (0 : Int)]] : List (List Int)) false, .row 0 (y1.2 : List Int) false]))))) (So (y0f c rv m_Lv m_Bv m_Wv) (fun (y2 : Bool × List (List Int) × List Int) => (br (!y2.1) (K (vb false) [.cells U (yl m_Lv.C ++ [.row 3, .row 4]), .dead, .dead, .row 6 (y2.2.1 : List (List Int)) false, .row 0 (y2.2.2 : List Int) false]) (br (rv.Err == 0) (So (yr m_Lv) (fun (y3 : Int) => (So (yr m_Lv) (fun (y4 : Int) => (Loop (y3o y00 y0g y0f yr y0n) (⟨111, 3⟩ : Cx) (at_ (bodyOf Try.f46) [1, 1, 1, 1, 0, 1, 0, 1, 1, 0, 1, 0, 0]) (mkEnv [(0, .ptr 0 0), (5, .ptr 3 0), (9, .ptr 4 0), (10, vi (IntKind.i64.wrap (rv.Addr - y3))), (11, vi (IntKind.i64.wrap (List.getD (m_Bv.getD (Int.toNat (offs iv (0 : Nat))) (List.replicate (3 : Nat) (0 : Int))) (0 : Nat) (0 : Int) - y4))), (12, vi 0)]) [.cells U (yl m_Lv.C ++ [.row 5, .row 6]), .dead, .dead, .cells 42 (y0p c), .cells 59 [vi (List.getD (m_Bv.getD (Int.toNat (offs iv (0 : Nat))) (List.replicate (3 : Nat) (0 : Int))) (0 : Nat) (0 : Int)), vi (List.getD (m_Bv.getD (Int.toNat (offs iv (0 : Nat))) (List.replicate (3 : Nat) (0 : Int))) (1 : Nat) (0 : Int)), vi (List.getD (m_Bv.getD (Int.toNat (offs iv (0 : Nat))) (List.replicate (3 : Nat) (0 : Int))) (2 : Nat) (0 : Int))], .row 6 (y2.2.1 : List (List Int)) false, .row 0 (y2.2.2 : List Int) false] (contK (y3o y00 y0g y0f yr y0n) (⟨111, 3⟩ : Cx) (bodyOf Try.f46) [1, 1, 1, 1, 0, 1, 0, 1, 1, 0, 1, 0] (retW (y3o y00 y0g y0f yr y0n) wk_ref20_Model_again Try.f46 3 K))))))) (K (vb true) [.cells U (yl m_Lv.C ++ [.row 3, .row 4]), .dead, .dead, .row 6 (y2.2.1 : List (List Int)) false, .row 0 (y2.2.2 : List Int) false])))))))))) := by kernel_rfl
theorem yg4 (m_Lv : T_assartref02_Layout) (m_Bv : List (List Int)) (m_Wv : List Int) (asked words iv : Int) (K : V → Heap → Prop) (J1 : Env → Heap → Prop) : (ex y3m (⟨44, 3⟩ : Cx) (at_ (bodyOf Try.f48) [1, 1, 1, 0, 1, 0, 0]) (mkEnv [(0, .ptr 0 0), (5, vi asked), (6, vi words), (7, vi iv)]) [.rcells (yl (Go.Rx.T_assartref02_Layout.C m_Lv) ++ [.row 1, .row 2]), .row 6 m_Bv true, .row 0 m_Wv true] (roundK y3m (⟨44, 3⟩ : Cx) (at_ (bodyOf Try.f48) [1, 1, 1, 0, 1, 0, 0]) (contK y3m (⟨44, 3⟩ : Cx) (bodyOf Try.f48) [1, 1, 1, 0, 1, 0] (retK y3m Try.f48 3 K)) J1)) = (
    br (decide (iv < (↑m_Bv.length : Int))) (Req (inR iv m_Bv.length) (Req (inR (offs iv 0) m_Bv.length) (Req (inR iv m_Bv.length) (Req (inR (offs iv 0) m_Bv.length) (J1 (mkEnv [(0, .ptr 0 0), (5, vi (IntKind.i64.wrap (asked + List.getD (m_Bv.getD (Int.toNat (offs iv (0 : Nat))) (List.replicate (3 : Nat) (0 : Int))) (1 : Nat) (0 : Int)))), (6, vi (IntKind.i64.wrap (words + List.getD (m_Bv.getD (Int.toNat (offs iv (0 : Nat))) (List.replicate (3 : Nat) (0 : Int))) (2 : Nat) (0 : Int)))), (7, vi (IntKind.i64.wrap (iv + 1)))]) [.rcells (yl m_Lv.C ++ [.row 1, .row 2]), .row 6 m_Bv true, .row 0 m_Wv true]))))) (K (.tup [vi (↑m_Bv.length : Int), vi asked, vi words]) [.rcells (yl m_Lv.C ++ [.row 1, .row 2]), .row 6 m_Bv true, .row 0 m_Wv true])) := by kernel_rfl
theorem yjx (m_Lv : T_assartref02_Layout) (m_Bv : List (List Int)) (m_Wv : List Int) (K : V → Heap → Prop) : (exF y3m Try.f48 [.ptr 0 0] [.rcells (y05 m_Lv ++ [.row 1, .row 2]), .row 6 m_Bv true, .row 0 m_Wv true] K) = (
    Loop y3m (⟨44, 3⟩ : Cx) (at_ (bodyOf Try.f48) [1, 1, 1, 0, 1, 0, 0]) (mkEnv [(0, .ptr 0 0), (5, vi 0), (6, vi 0), (7, vi 0)]) [.rcells (yl m_Lv.C ++ [.row 1, .row 2]), .row 6 m_Bv true, .row 0 m_Wv true] (contK y3m (⟨44, 3⟩ : Cx) (bodyOf Try.f48) [1, 1, 1, 0, 1, 0] (retK y3m Try.f48 3 K))) := by kernel_rfl
theorem yjj (y2b : Y12) (y0n : Int → T_assartref02_Layout → (List (List Int)) → (List Int) → Option Int) (y0f : yc → T_api_Reply → T_assartref02_Layout → (List (List Int)) → (List Int) → Option (Bool × (List (List Int)) × (List Int))) (y32 : yc → T_api_Reply → Int → T_assartref02_Layout → (List (List Int)) → (List Int) → Option (Bool × (List (List Int)) × (List Int))) (y0g : Int → T_assartref02_Layout → (List (List Int)) → (List Int) → Option ((List (List Int)) × (List Int))) (y2y : T_assartref02_Layout → (List (List Int)) → (List Int) → Option (Int × Int × Int)) (y2g : Y25) (y0o : Int → T_assartref02_Layout → (List (List Int)) → (List Int) → Option Int) (yr : Y0) (c : yc) (rv : T_api_Reply) (m_Lv : T_assartref02_Layout) (m_Bv : List (List Int)) (m_Wv : List Int) (U : TypeId) (K : V → Heap → Prop) : (exFW (ya5 y2b y0n y0f y32 y0g y2y y2g y0o yr) [] wk_ref20_Model_Step Try.f16 [.ptr 0 0, .agg (y0p c), .agg (y07 rv)] [.cells U (y05 m_Lv ++ [.row 1, .row 2]), .row 6 m_Bv false, .row 0 m_Wv false] K) = (
    br (rv.Err == 8 && (rv.Addr == 0 && (rv.Size == 0 && (rv.Value == 0 && (rv.Stats.Blocks == 0 && (rv.Stats.Asked == 0 && (rv.Stats.Words == 0 && (rv.Stats.Kept == 0 && (rv.Stats.Open == 0 && (rv.Stats.Mapped == 0 && (rv.Stats.Used == 0 && true)))))) && true))))) (K (vb true) [.cells U (yl m_Lv.C ++ [.row 3, .row 4]), .dead, .dead, .row 6 m_Bv false, .row 0 m_Wv false]) (So (y2b c) (fun (y0 : Int) => (br (y0 != 0) (So (y2b c) (fun (y1 : Int) => (K (vb (rv.Err == y1 && (rv.Addr == 0 && (rv.Size == 0 && (rv.Value == 0 && (rv.Stats.Blocks == 0 && (rv.Stats.Asked == 0 && (rv.Stats.Words == 0 && (rv.Stats.Kept == 0 && (rv.Stats.Open == 0 && (rv.Stats.Mapped == 0 && (rv.Stats.Used == 0 && true)))))) && true)))))) [.cells U (yl m_Lv.C ++ [.row 3, .row 4]), .dead, .dead, .row 6 m_Bv false, .row 0 m_Wv false]))) (So (y0n c.Addr m_Lv m_Bv m_Wv) (fun (y2 : Int) => (br (c.Kind == 1) (So (y0f c rv m_Lv m_Bv m_Wv) (fun (y3 : Bool × List (List Int) × List Int) => (K (vb y3.1) [.cells U (yl m_Lv.C ++ [.row 3, .row 4]), .dead, .dead, .row 6 (y3.2.1 : List (List Int)) false, .row 0 (y3.2.2 : List Int) false]))) (br (c.Kind == 3) (So (y0f c rv m_Lv m_Bv m_Wv) (fun (y4 : Bool × List (List Int) × List Int) => (K (vb y4.1) [.cells U (yl m_Lv.C ++ [.row 3, .row 4]), .dead, .dead, .row 6 (y4.2.1 : List (List Int)) false, .row 0 (y4.2.2 : List Int) false]))) (br (c.Kind == 5) (So (y0f c rv m_Lv m_Bv m_Wv) (fun (y5 : Bool × List (List Int) × List Int) => (K (vb y5.1) [.cells U (yl m_Lv.C ++ [.row 3, .row 4]), .dead, .dead, .row 6 (y5.2.1 : List (List Int)) false, .row 0 (y5.2.2 : List Int) false]))) (br (c.Kind == 4) (br (c.Addr == 0) (So (y0f c rv m_Lv m_Bv m_Wv) (fun (y6 : Bool × List (List Int) × List Int) => (K (vb y6.1) [.cells U (yl m_Lv.C ++ [.row 3, .row 4]), .dead, .dead, .row 6 (y6.2.1 : List (List Int)) false, .row 0 (y6.2.2 : List Int) false]))) (br (decide (y2 < 0)) (K (vb (rv.Err == 7 && (rv.Addr == 0 && (rv.Size == 0 && (rv.Value == 0 && (rv.Stats.Blocks == 0 && (rv.Stats.Asked == 0 && (rv.Stats.Words == 0 && (rv.Stats.Kept == 0 && (rv.Stats.Open == 0 && (rv.Stats.Mapped == 0 && (rv.Stats.Used == 0 && true)))))) && true)))))) [.cells U (yl m_Lv.C ++ [.row 3, .row 4]), .dead, .dead, .row 6 m_Bv false, .row 0 m_Wv false]) (So (y32 c rv y2 m_Lv m_Bv m_Wv) (fun (y7 : Bool × List (List Int) × List Int) => (K (vb y7.1) [.cells U (yl m_Lv.C ++ [.row 3, .row 4]), .dead, .dead, .row 6 (y7.2.1 : List (List Int)) false, .row 0 (y7.2.2 : List Int) false]))))) (br (c.Kind == 2) (br (c.Addr != 0) (br (decide (y2 < 0)) (K (vb (rv.Err == 7 && (rv.Addr == 0 && (rv.Size == 0 && (rv.Value == 0 && (rv.Stats.Blocks == 0 && (rv.Stats.Asked == 0 && (rv.Stats.Words == 0 && (rv.Stats.Kept == 0 && (rv.Stats.Open == 0 && (rv.Stats.Mapped == 0 && (rv.Stats.Used == 0 && true)))))) && true)))))) [.cells U (yl m_Lv.C ++ [.row 3, .row 4]), .dead, .dead, .row 6 m_Bv false, .row 0 m_Wv false]) (br (!(rv.Err == 0 && (rv.Addr == 0 && (rv.Size == 0 && (rv.Value == 0 && (rv.Stats.Blocks == 0 && (rv.Stats.Asked == 0 && (rv.Stats.Words == 0 && (rv.Stats.Kept == 0 && (rv.Stats.Open == 0 && (rv.Stats.Mapped == 0 && (rv.Stats.Used == 0 && true)))))) && true)))))) (K (vb false) [.cells U (yl m_Lv.C ++ [.row 3, .row 4]), .dead, .dead, .row 6 m_Bv false, .row 0 m_Wv false]) (br (decide (y2 ≥ 0)) (So (y0g y2 m_Lv m_Bv m_Wv) (fun (y8 : List (List Int) × List Int) => (K (vb true) [.cells U (yl m_Lv.C ++ [.row 3, .row 4]), .dead, .dead, .row 6 (y8.1 : List (List Int)) false, .row 0 (y8.2 : List Int) false]))) (K (vb true) [.cells U (yl m_Lv.C ++ [.row 3, .row 4]), .dead, .dead, .row 6 m_Bv false, .row 0 m_Wv false])))) (br (!(rv.Err == 0 && (rv.Addr == 0 && (rv.Size == 0 && (rv.Value == 0 && (rv.Stats.Blocks == 0 && (rv.Stats.Asked == 0 && (rv.Stats.Words == 0 && (rv.Stats.Kept == 0 && (rv.Stats.Open == 0 && (rv.Stats.Mapped == 0 && (rv.Stats.Used == 0 && true)))))) && true)))))) (K (vb false) [.cells U (yl m_Lv.C ++ [.row 3, .row 4]), .dead, .dead, .row 6 m_Bv false, .row 0 m_Wv false]) (br (decide (y2 ≥ 0)) (So (y0g y2 m_Lv m_Bv m_Wv) (fun (y9 : List (List Int) × List Int) => (K (vb true) [.cells U (yl m_Lv.C ++ [.row 3, .row 4]), .dead, .dead, .row 6 (y9.1 : List (List Int)) false, .row 0 (y9.2 : List Int) false]))) (K (vb true) [.cells U (yl m_Lv.C ++ [.row 3, .row 4]), .dead, .dead, .row 6 m_Bv false, .row 0 m_Wv false])))) (br (c.Kind == 6) (br (decide (y2 < 0)) (K (vb (rv.Err == 7 && (rv.Addr == 0 && (rv.Size == 0 && (rv.Value == 0 && (rv.Stats.Blocks == 0 && (rv.Stats.Asked == 0 && (rv.Stats.Words == 0 && (rv.Stats.Kept == 0 && (rv.Stats.Open == 0 && (rv.Stats.Mapped == 0 && (rv.Stats.Used == 0 && true)))))) && true)))))) [.cells U (yl m_Lv.C ++ [.row 3, .row 4]), .dead, .dead, .row 6 m_Bv false, .row 0 m_Wv false]) (Req (inR y2 m_Bv.length) (Req (inR (offs y2 0) m_Bv.length) (K (vb (rv.Err == (0 : Int) && (rv.Addr == (0 : Int) && (rv.Size == List.getD (m_Bv.getD (Int.toNat (offs y2 (0 : Nat))) (List.replicate (3 : Nat) (0 : Int))) (2 : Nat) (0 : Int) && (rv.Value == (0 : Int) && (rv.Stats.Blocks == (0 : Int) && (rv.Stats.Asked == (0 : Int) && (rv.Stats.Words == (0 : Int) && (rv.Stats.Kept == (0 : Int) && (rv.Stats.Open == (0 : Int) && (rv.Stats.Mapped == (0 : Int) && (rv.Stats.Used == (0 : Int) && true)))))) && true)))))) [.cells U (yl m_Lv.C ++ [.row 3, .row 4]), .dead, .dead, .row 6 m_Bv false, .row 0 m_Wv false])))) (br (c.Kind == 7) (K (vb (rv.Err == 0 && (rv.Addr == 0 && (rv.Size == 0 && (rv.Value == 0 && (rv.Stats.Blocks == 0 && (rv.Stats.Asked == 0 && (rv.Stats.Words == 0 && (rv.Stats.Kept == 0 && (rv.Stats.Open == 0 && (rv.Stats.Mapped == 0 && (rv.Stats.Used == 0 && true)))))) && true)))))) [.cells U (yl m_Lv.C ++ [.row 3, .row 4]), .dead, .dead, .row 6 m_Bv false, .row 0 m_Wv false]) (br (c.Kind == 9) (K (vb (rv.Err == 0 && (rv.Addr == 0 && (rv.Size == 0 && (rv.Value == 0 && (rv.Stats.Blocks == 0 && (rv.Stats.Asked == 0 && (rv.Stats.Words == 0 && (rv.Stats.Kept == 0 && (rv.Stats.Open == 0 && (rv.Stats.Mapped == 0 && (rv.Stats.Used == 0 && true)))))) && true)))))) [.cells U (yl m_Lv.C ++ [.row 3, .row 4]), .dead, .dead, .row 6 m_Bv false, .row 0 m_Wv false]) (br (c.Kind == 8) (br (rv.Err == 0 && (rv.Addr == 0 && (rv.Size == rv.Size && (rv.Value == 0 && (rv.Stats.Blocks == 0 && (rv.Stats.Asked == 0 && (rv.Stats.Words == 0 && (rv.Stats.Kept == 0 && (rv.Stats.Open == 0 && (rv.Stats.Mapped == 0 && (rv.Stats.Used == 0 && true)))))) && true))))) (br (decide (rv.Size ≥ 0)) (K (vb (decide (rv.Size ≤ m_Lv.C.Pages))) [.cells U (yl m_Lv.C ++ [.row 3, .row 4]), .dead, .dead, .row 6 m_Bv false, .row 0 m_Wv false]) (K (vb false) [.cells U (yl m_Lv.C ++ [.row 3, .row 4]), .dead, .dead, .row 6 m_Bv false, .row 0 m_Wv false])) (K (vb false) [.cells U (yl m_Lv.C ++ [.row 3, .row 4]), .dead, .dead, .row 6 m_Bv false, .row 0 m_Wv false])) (br (c.Kind == 10) (So (y2y m_Lv m_Bv m_Wv) (fun (y10 : Int × Int × Int) => (br (rv.Err == 0 && (rv.Addr == 0 && (rv.Size == 0 && (rv.Value == 0 && (rv.Stats.Blocks == rv.Stats.Blocks && (rv.Stats.Asked == rv.Stats.Asked && (rv.Stats.Words == rv.Stats.Words && (rv.Stats.Kept == rv.Stats.Kept && (rv.Stats.Open == rv.Stats.Open && (rv.Stats.Mapped == rv.Stats.Mapped && (rv.Stats.Used == rv.Stats.Used && true)))))) && true))))) (br (decide (rv.Stats.Mapped ≤ m_Lv.C.Pages)) (So (y2g rv.Stats) (fun (y11 : Bool) => (br y11 (br (rv.Stats.Blocks == y10.1) (br (rv.Stats.Asked == y10.2.1) (K (vb (rv.Stats.Words == y10.2.2)) [.cells U (yl m_Lv.C ++ [.row 3, .row 4]), .dead, .dead, .row 6 m_Bv false, .row 0 m_Wv false]) (K (vb false) [.cells U (yl m_Lv.C ++ [.row 3, .row 4]), .dead, .dead, .row 6 m_Bv false, .row 0 m_Wv false])) (K (vb false) [.cells U (yl m_Lv.C ++ [.row 3, .row 4]), .dead, .dead, .row 6 m_Bv false, .row 0 m_Wv false])) (K (vb false) [.cells U (yl m_Lv.C ++ [.row 3, .row 4]), .dead, .dead, .row 6 m_Bv false, .row 0 m_Wv false])))) (K (vb false) [.cells U (yl m_Lv.C ++ [.row 3, .row 4]), .dead, .dead, .row 6 m_Bv false, .row 0 m_Wv false])) (K (vb false) [.cells U (yl m_Lv.C ++ [.row 3, .row 4]), .dead, .dead, .row 6 m_Bv false, .row 0 m_Wv false])))) (So (y0o c.Addr m_Lv m_Bv m_Wv) (fun (y12 : Int) => (br (decide (y12 < 0)) (K (vb (rv.Err == 7 && (rv.Addr == 0 && (rv.Size == 0 && (rv.Value == 0 && (rv.Stats.Blocks == 0 && (rv.Stats.Asked == 0 && (rv.Stats.Words == 0 && (rv.Stats.Kept == 0 && (rv.Stats.Open == 0 && (rv.Stats.Mapped == 0 && (rv.Stats.Used == 0 && true)))))) && true)))))) [.cells U (yl m_Lv.C ++ [.row 3, .row 4]), .dead, .dead, .row 6 m_Bv false, .row 0 m_Wv false]) (So (yr m_Lv) (fun (y13 : Int) => (br (c.Kind == 11) (Req (inR (IntKind.i64.wrap (c.Addr - y13)) m_Wv.length) (Req (inR (offs (IntKind.i64.wrap (c.Addr - y13)) 0) m_Wv.length) (K (vb (rv.Err == 0 && (rv.Addr == 0 && (rv.Size == 0 && (rv.Value == m_Wv.getD (Int.toNat (offs (IntKind.i64.wrap (c.Addr - y13)) 0)) 0 && (rv.Stats.Blocks == 0 && (rv.Stats.Asked == 0 && (rv.Stats.Words == 0 && (rv.Stats.Kept == 0 && (rv.Stats.Open == 0 && (rv.Stats.Mapped == 0 && (rv.Stats.Used == 0 && true)))))) && true)))))) [.cells U (yl m_Lv.C ++ [.row 3, .row 4]), .dead, .dead, .row 6 m_Bv false, .row 0 m_Wv false]))) (br (!(rv.Err == 0 && (rv.Addr == 0 && (rv.Size == 0 && (rv.Value == 0 && (rv.Stats.Blocks == 0 && (rv.Stats.Asked == 0 && (rv.Stats.Words == 0 && (rv.Stats.Kept == 0 && (rv.Stats.Open == 0 && (rv.Stats.Mapped == 0 && (rv.Stats.Used == 0 && true)))))) && true)))))) (K (vb false) [.cells U (yl m_Lv.C ++ [.row 3, .row 4]), .dead, .dead, .row 6 m_Bv false, .row 0 m_Wv false]) (Req (inR (IntKind.i64.wrap (c.Addr - y13)) m_Wv.length) (Req (inR (offs (IntKind.i64.wrap (c.Addr - y13)) 0) m_Wv.length) (K (vb true) [.cells U (yl m_Lv.C ++ [.row 3, .row 4]), .dead, .dead, .row 6 m_Bv false, .row 0 (List.set m_Wv (Int.toNat (offs (IntKind.i64.wrap (c.Addr - y13)) 0)) c.Value : List Int) false])))))))))))))))))))))))))) := by kernel_rfl
def y0l (c : yb) : Option (T_assartref02_Layout × (List (List Int)) × (List Int)) :=
  (bif (decide (0 ≤ IntKind.i64.wrap (32 * c.Pages) ∧ IntKind.i64.wrap (32 * c.Pages) ≤ IntKind.i64.wrap (32 * c.Pages) ∧ IntKind.i64.wrap (32 * c.Pages) ≤ 1048576)) then some ((T_assartref02_Layout.mk c), ([]), (List.replicate (Int.toNat (IntKind.i64.wrap ((32 : Int) * c.Pages))) (0 : Int))) else none)
def y00 (n align : Int) : Option Int :=
  (bif (decide (n > 1048576)) then some 0 else ((y36 n align).bind fun y0 => some y0.1))
def y51 (a : Int) (m_Bv : List (List Int)) (iv : Int) : Option (Int ⊕ Int) :=
  (bif (decide (iv < (↑m_Bv.length : Int))) then (bif (inR iv m_Bv.length) then (bif (inR (offs iv 0) m_Bv.length) then (bif (List.getD (m_Bv.getD (Int.toNat (offs iv (0 : Nat))) (List.replicate (3 : Nat) (0 : Int))) (0 : Nat) (0 : Int) == a) then some (.inr iv) else some (.inl (IntKind.i64.wrap (iv + 1)))) else none) else none) else some (.inr (-1)))
def yef (a : Int) (m_Bv : List (List Int)) (s : Int) : Option Int :=
  loopO (fun s => y51 a m_Bv s) s
def y0n (a : Int) (m_Lv : T_assartref02_Layout) (m_Bv : List (List Int)) (m_Wv : List Int) : Option Int :=
  (yef a m_Bv 0)
def y4s (a : Int) (m_Bv : List (List Int)) (iv : Int) : Option (Int ⊕ Int) :=
  (bif (decide (iv < (↑m_Bv.length : Int))) then (bif (inR iv m_Bv.length) then (bif (inR (offs iv 0) m_Bv.length) then (bif (decide (a ≥ List.getD (m_Bv.getD (Int.toNat (offs iv (0 : Nat))) (List.replicate (3 : Nat) (0 : Int))) (0 : Nat) (0 : Int))) then (bif (inR iv m_Bv.length) then (bif (inR (offs iv 0) m_Bv.length) then (bif (inR iv m_Bv.length) then (bif (inR (offs iv 0) m_Bv.length) then (bif (decide (a < IntKind.i64.wrap (List.getD (m_Bv.getD (Int.toNat (offs iv (0 : Nat))) (List.replicate (3 : Nat) (0 : Int))) (0 : Nat) (0 : Int) + List.getD (m_Bv.getD (Int.toNat (offs iv (0 : Nat))) (List.replicate (3 : Nat) (0 : Int))) (2 : Nat) (0 : Int)))) then some (.inr iv) else some (.inl (IntKind.i64.wrap (iv + 1)))) else none) else none) else none) else none) else some (.inl (IntKind.i64.wrap (iv + 1)))) else none) else none) else some (.inr (-1)))
def yan (a : Int) (m_Bv : List (List Int)) (s : Int) : Option Int :=
  loopO (fun s => y4s a m_Bv s) s
def y0o (a : Int) (m_Lv : T_assartref02_Layout) (m_Bv : List (List Int)) (m_Wv : List Int) : Option Int :=
  (yan a m_Bv 0)
def y0g (iv : Int) (m_Lv : T_assartref02_Layout) (m_Bv : List (List Int)) (m_Wv : List Int) : Option ((List (List Int)) × (List Int)) :=
  (bif (decide (0 ≤ iv ∧ iv ≤ (↑m_Bv.length : Int))) then (bif (decide (0 ≤ IntKind.i64.wrap (iv + 1) ∧ IntKind.i64.wrap (iv + 1) ≤ (↑m_Bv.length : Int))) then (bif (decide (0 + Int.toNat iv ≤ m_Bv.length)) then (bif (decide (0 + List.length (List.take (Int.toNat iv) (List.drop 0 m_Bv)) ≤ 1048576)) then (bif (decide (Int.toNat (IntKind.i64.wrap (iv + 1)) + (m_Bv.length - Int.toNat (IntKind.i64.wrap (iv + 1))) ≤ m_Bv.length)) then (bif (decide (List.length (List.take (Int.toNat iv) (List.drop 0 m_Bv)) + List.length (List.take (m_Bv.length - Int.toNat (IntKind.i64.wrap (iv + 1))) (List.drop (Int.toNat (IntKind.i64.wrap (iv + 1))) m_Bv)) ≤ 1048576)) then some ((List.take (Int.toNat iv) (List.drop 0 m_Bv) ++ List.take (m_Bv.length - Int.toNat (IntKind.i64.wrap (iv + 1))) (List.drop (Int.toNat (IntKind.i64.wrap (iv + 1))) m_Bv)), m_Wv) else none) else none) else none) else none) else none) else none)
def y4n (rv : T_api_Reply) (m_Lv : T_assartref02_Layout) (m_Bv : List (List Int)) (m_Wv : List Int) (want a : Int) : Option (Int ⊕ Bool) :=
  (bif (decide (a < IntKind.i64.wrap (rv.Addr + want))) then ((y0o a m_Lv m_Bv m_Wv).bind fun y0 => (bif (decide (y0 ≥ 0)) then some (.inr false) else some (.inl (IntKind.i64.wrap (a + 1))))) else some (.inr true))
def y4t (rv : T_api_Reply) (m_Lv : T_assartref02_Layout) (m_Bv : List (List Int)) (m_Wv : List Int) (want s : Int) : Option Bool :=
  loopO (fun s => y4n rv m_Lv m_Bv m_Wv want s) s
def y1k (c : yc) (rv : T_api_Reply) (m_Lv : T_assartref02_Layout) (m_Bv : List (List Int)) (m_Wv : List Int) : Option Bool :=
  (bif (c.Kind == 5) then ((y00 c.Size c.Align).bind fun y0 => (bif (y0 == 0) then some false else (bif (!(rv.Err == 0 && (rv.Addr == rv.Addr && (rv.Size == y0 && (rv.Value == 0 && (rv.Stats.Blocks == 0 && (rv.Stats.Asked == 0 && (rv.Stats.Words == 0 && (rv.Stats.Kept == 0 && (rv.Stats.Open == 0 && (rv.Stats.Mapped == 0 && (rv.Stats.Used == 0 && true)))))) && true)))))) then some false else ((yr m_Lv).bind fun y1 => (bif (decide (rv.Addr < y1)) then some false else ((y0m m_Lv).bind fun y2 => (bif (decide (rv.Addr ≥ y2)) then some false else ((y0m m_Lv).bind fun y3 => (bif (decide (y0 > IntKind.i64.wrap (y3 - rv.Addr))) then some false else (bif (!c.Align == 0) then (bif (Int.tmod rv.Addr c.Align != 0) then some false else (y4t rv m_Lv m_Bv m_Wv y0 rv.Addr)) else none)))))))))) else ((y00 c.Size 1).bind fun y4 => (bif (y4 == 0) then some false else (bif (!(rv.Err == 0 && (rv.Addr == rv.Addr && (rv.Size == y4 && (rv.Value == 0 && (rv.Stats.Blocks == 0 && (rv.Stats.Asked == 0 && (rv.Stats.Words == 0 && (rv.Stats.Kept == 0 && (rv.Stats.Open == 0 && (rv.Stats.Mapped == 0 && (rv.Stats.Used == 0 && true)))))) && true)))))) then some false else ((yr m_Lv).bind fun y5 => (bif (decide (rv.Addr < y5)) then some false else ((y0m m_Lv).bind fun y6 => (bif (decide (rv.Addr ≥ y6)) then some false else ((y0m m_Lv).bind fun y7 => (bif (decide (y4 > IntKind.i64.wrap (y7 - rv.Addr))) then some false else (bif (Int.tmod rv.Addr 1 != 0) then some false else (y4t rv m_Lv m_Bv m_Wv y4 rv.Addr))))))))))))
def y3v (c : yc) (rv : T_api_Reply) (m_Bv : List (List Int)) (fromv iv : Int) (m_Wvv : List Int) : Option ((Int × (List Int)) ⊕ (Bool × (List (List Int)) × (List Int))) :=
  (bif (decide (iv < rv.Size)) then (bif (c.Kind == 3) then (bif (inR (IntKind.i64.wrap (fromv + iv)) m_Wvv.length) then (bif (inR (offs (IntKind.i64.wrap (fromv + iv)) 0) m_Wvv.length) then some (.inl ((IntKind.i64.wrap (iv + 1)), (List.set m_Wvv (Int.toNat (offs (IntKind.i64.wrap (fromv + iv)) 0)) 0))) else none) else none) else (bif (decide (0 + m_Bv.length ≤ 1048576)) then (bif (decide (m_Bv.length + 1 ≤ 1048576)) then some (.inr (true, (m_Bv ++ [[rv.Addr, c.Size, rv.Size]]), m_Wvv)) else none) else none)) else (bif (decide (0 + m_Bv.length ≤ 1048576)) then (bif (decide (m_Bv.length + 1 ≤ 1048576)) then some (.inr (true, (m_Bv ++ [[rv.Addr, c.Size, rv.Size]]), m_Wvv)) else none) else none))
def y54 (c : yc) (rv : T_api_Reply) (m_Bv : List (List Int)) (fromv : Int) (s : Int × (List Int)) : Option (Bool × (List (List Int)) × (List Int)) :=
  loopO (fun s => y3v c rv m_Bv fromv s.1 s.2) s
def y0f (c : yc) (rv : T_api_Reply) (m_Lv : T_assartref02_Layout) (m_Bv : List (List Int)) (m_Wv : List Int) : Option (Bool × (List (List Int)) × (List Int)) :=
  (bif (rv.Err == 6 && (rv.Addr == 0 && (rv.Size == 0 && (rv.Value == 0 && (rv.Stats.Blocks == 0 && (rv.Stats.Asked == 0 && (rv.Stats.Words == 0 && (rv.Stats.Kept == 0 && (rv.Stats.Open == 0 && (rv.Stats.Mapped == 0 && (rv.Stats.Used == 0 && true)))))) && true))))) then some (true, m_Bv, m_Wv) else ((y1k c rv m_Lv m_Bv m_Wv).bind fun y0 => (bif (!y0) then some (false, m_Bv, m_Wv) else ((yr m_Lv).bind fun y1 => (y54 c rv m_Bv (IntKind.i64.wrap (rv.Addr - y1)) (0, m_Wv))))))
def y4j (c : yc) (m_Lv : T_assartref02_Layout) (to fromv : Int) (c2 : y34) (w : List (List Int)) (k : Int) (w2 : List Int) : Option ((Int × (List Int)) ⊕ (Bool × (List (List Int)) × (List Int))) :=
  (bif (decide (k < c2.Asked)) then (bif (decide (k < c.Size)) then (bif (inR (IntKind.i64.wrap (fromv + k)) w2.length) then (bif (inR (offs (IntKind.i64.wrap (fromv + k)) 0) w2.length) then (bif (inR (IntKind.i64.wrap (to + k)) w2.length) then (bif (inR (offs (IntKind.i64.wrap (to + k)) 0) w2.length) then some (.inl ((IntKind.i64.wrap (k + 1)), (List.set w2 (Int.toNat (offs (IntKind.i64.wrap (to + k)) 0)) (w2.getD (Int.toNat (offs (IntKind.i64.wrap (fromv + k)) 0)) 0)))) else none) else none) else none) else none) else ((y0n c2.A m_Lv w w2).bind fun y0 => ((y0g y0 m_Lv w w2).bind fun y1 => some (.inr (true, y1.1, y1.2))))) else ((y0n c2.A m_Lv w w2).bind fun y2 => ((y0g y2 m_Lv w w2).bind fun y3 => some (.inr (true, y3.1, y3.2)))))
def y5k (c : yc) (m_Lv : T_assartref02_Layout) (to fromv : Int) (c2 : y34) (w : List (List Int)) (s : Int × (List Int)) : Option (Bool × (List (List Int)) × (List Int)) :=
  loopO (fun s => y4j c m_Lv to fromv c2 w s.1 s.2) s
def y32 (c : yc) (rv : T_api_Reply) (iv : Int) (m_Lv : T_assartref02_Layout) (m_Bv : List (List Int)) (m_Wv : List Int) : Option (Bool × (List (List Int)) × (List Int)) :=
  (bif (inR iv m_Bv.length) then (bif (inR (offs iv 0) m_Bv.length) then ((y00 c.Size 1).bind fun y0 => (bif (y0 == List.getD (m_Bv.getD (Int.toNat (offs iv (0 : Nat))) (List.replicate (3 : Nat) (0 : Int))) (2 : Nat) (0 : Int)) then (bif (!(rv.Err == (0 : Int) && (rv.Addr == List.getD (m_Bv.getD (Int.toNat (offs iv (0 : Nat))) (List.replicate (3 : Nat) (0 : Int))) (0 : Nat) (0 : Int) && (rv.Size == List.getD (m_Bv.getD (Int.toNat (offs iv (0 : Nat))) (List.replicate (3 : Nat) (0 : Int))) (2 : Nat) (0 : Int) && (rv.Value == (0 : Int) && (rv.Stats.Blocks == (0 : Int) && (rv.Stats.Asked == (0 : Int) && (rv.Stats.Words == (0 : Int) && (rv.Stats.Kept == (0 : Int) && (rv.Stats.Open == (0 : Int) && (rv.Stats.Mapped == (0 : Int) && (rv.Stats.Used == (0 : Int) && true)))))) && true)))))) then some (false, m_Bv, m_Wv) else ((y0g iv m_Lv m_Bv m_Wv).bind fun y1 => (bif (decide (y1.1.length + 1 ≤ 1048576)) then some (true, (y1.1 ++ [[List.getD (m_Bv.getD (Int.toNat (offs iv (0 : Nat))) (List.replicate (3 : Nat) (0 : Int))) (0 : Nat) (0 : Int), c.Size, List.getD (m_Bv.getD (Int.toNat (offs iv (0 : Nat))) (List.replicate (3 : Nat) (0 : Int))) (2 : Nat) (0 : Int)]]), y1.2) else none))) else ((y0f c rv m_Lv m_Bv m_Wv).bind fun y2 => (bif (!y2.1) then some (false, y2.2.1, y2.2.2) else (bif (rv.Err == 0) then ((yr m_Lv).bind fun y3 => ((yr m_Lv).bind fun y4 => (y5k c m_Lv (IntKind.i64.wrap (rv.Addr - y3)) (IntKind.i64.wrap (List.getD (m_Bv.getD (Int.toNat (offs iv (0 : Nat))) (List.replicate (3 : Nat) (0 : Int))) (0 : Nat) (0 : Int) - y4)) (y34.mk (List.getD (m_Bv.getD (Int.toNat (offs iv (0 : Nat))) (List.replicate (3 : Nat) (0 : Int))) (0 : Nat) (0 : Int)) (List.getD (m_Bv.getD (Int.toNat (offs iv (0 : Nat))) (List.replicate (3 : Nat) (0 : Int))) (1 : Nat) (0 : Int)) (List.getD (m_Bv.getD (Int.toNat (offs iv (0 : Nat))) (List.replicate (3 : Nat) (0 : Int))) (2 : Nat) (0 : Int))) y2.2.1 (0, y2.2.2)))) else some (true, y2.2.1, y2.2.2)))))) else none) else none)
def y4f (m_Bv : List (List Int)) (asked words iv : Int) : Option ((Int × Int × Int) ⊕ (Int × Int × Int)) :=
  (bif (decide (iv < (↑m_Bv.length : Int))) then (bif (inR iv m_Bv.length) then (bif (inR (offs iv 0) m_Bv.length) then (bif (inR iv m_Bv.length) then (bif (inR (offs iv 0) m_Bv.length) then some (.inl ((IntKind.i64.wrap (asked + List.getD (m_Bv.getD (Int.toNat (offs iv (0 : Nat))) (List.replicate (3 : Nat) (0 : Int))) (1 : Nat) (0 : Int))), (IntKind.i64.wrap (words + List.getD (m_Bv.getD (Int.toNat (offs iv (0 : Nat))) (List.replicate (3 : Nat) (0 : Int))) (2 : Nat) (0 : Int))), (IntKind.i64.wrap (iv + 1)))) else none) else none) else none) else none) else some (.inr ((↑m_Bv.length : Int), asked, words)))
def y7q (m_Bv : List (List Int)) (s : Int × Int × Int) : Option (Int × Int × Int) :=
  loopO (fun s => y4f m_Bv s.1 s.2.1 s.2.2) s
def y2y (m_Lv : T_assartref02_Layout) (m_Bv : List (List Int)) (m_Wv : List Int) : Option (Int × Int × Int) :=
  (y7q m_Bv (0, 0, 0))
def y0h (c : yc) (rv : T_api_Reply) (m_Lv : T_assartref02_Layout) (m_Bv : List (List Int)) (m_Wv : List Int) : Option (Bool × (List (List Int)) × (List Int)) :=
  (bif (rv.Err == 8 && (rv.Addr == 0 && (rv.Size == 0 && (rv.Value == 0 && (rv.Stats.Blocks == 0 && (rv.Stats.Asked == 0 && (rv.Stats.Words == 0 && (rv.Stats.Kept == 0 && (rv.Stats.Open == 0 && (rv.Stats.Mapped == 0 && (rv.Stats.Used == 0 && true)))))) && true))))) then some (true, m_Bv, m_Wv) else ((y2b c).bind fun y0 => (bif (y0 != 0) then ((y2b c).bind fun y1 => some ((rv.Err == y1 && (rv.Addr == 0 && (rv.Size == 0 && (rv.Value == 0 && (rv.Stats.Blocks == 0 && (rv.Stats.Asked == 0 && (rv.Stats.Words == 0 && (rv.Stats.Kept == 0 && (rv.Stats.Open == 0 && (rv.Stats.Mapped == 0 && (rv.Stats.Used == 0 && true)))))) && true))))), m_Bv, m_Wv)) else ((y0n c.Addr m_Lv m_Bv m_Wv).bind fun y2 => (bif (c.Kind == 1) then ((y0f c rv m_Lv m_Bv m_Wv).bind fun y3 => some (y3.1, y3.2.1, y3.2.2)) else (bif (c.Kind == 3) then ((y0f c rv m_Lv m_Bv m_Wv).bind fun y4 => some (y4.1, y4.2.1, y4.2.2)) else (bif (c.Kind == 5) then ((y0f c rv m_Lv m_Bv m_Wv).bind fun y5 => some (y5.1, y5.2.1, y5.2.2)) else (bif (c.Kind == 4) then (bif (c.Addr == 0) then ((y0f c rv m_Lv m_Bv m_Wv).bind fun y6 => some (y6.1, y6.2.1, y6.2.2)) else (bif (decide (y2 < 0)) then some ((rv.Err == 7 && (rv.Addr == 0 && (rv.Size == 0 && (rv.Value == 0 && (rv.Stats.Blocks == 0 && (rv.Stats.Asked == 0 && (rv.Stats.Words == 0 && (rv.Stats.Kept == 0 && (rv.Stats.Open == 0 && (rv.Stats.Mapped == 0 && (rv.Stats.Used == 0 && true)))))) && true))))), m_Bv, m_Wv) else ((y32 c rv y2 m_Lv m_Bv m_Wv).bind fun y7 => some (y7.1, y7.2.1, y7.2.2)))) else (bif (c.Kind == 2) then (bif (c.Addr != 0) then (bif (decide (y2 < 0)) then some ((rv.Err == 7 && (rv.Addr == 0 && (rv.Size == 0 && (rv.Value == 0 && (rv.Stats.Blocks == 0 && (rv.Stats.Asked == 0 && (rv.Stats.Words == 0 && (rv.Stats.Kept == 0 && (rv.Stats.Open == 0 && (rv.Stats.Mapped == 0 && (rv.Stats.Used == 0 && true)))))) && true))))), m_Bv, m_Wv) else (bif (!(rv.Err == 0 && (rv.Addr == 0 && (rv.Size == 0 && (rv.Value == 0 && (rv.Stats.Blocks == 0 && (rv.Stats.Asked == 0 && (rv.Stats.Words == 0 && (rv.Stats.Kept == 0 && (rv.Stats.Open == 0 && (rv.Stats.Mapped == 0 && (rv.Stats.Used == 0 && true)))))) && true)))))) then some (false, m_Bv, m_Wv) else (bif (decide (y2 ≥ 0)) then ((y0g y2 m_Lv m_Bv m_Wv).bind fun y8 => some (true, y8.1, y8.2)) else some (true, m_Bv, m_Wv)))) else (bif (!(rv.Err == 0 && (rv.Addr == 0 && (rv.Size == 0 && (rv.Value == 0 && (rv.Stats.Blocks == 0 && (rv.Stats.Asked == 0 && (rv.Stats.Words == 0 && (rv.Stats.Kept == 0 && (rv.Stats.Open == 0 && (rv.Stats.Mapped == 0 && (rv.Stats.Used == 0 && true)))))) && true)))))) then some (false, m_Bv, m_Wv) else (bif (decide (y2 ≥ 0)) then ((y0g y2 m_Lv m_Bv m_Wv).bind fun y9 => some (true, y9.1, y9.2)) else some (true, m_Bv, m_Wv)))) else (bif (c.Kind == 6) then (bif (decide (y2 < 0)) then some ((rv.Err == 7 && (rv.Addr == 0 && (rv.Size == 0 && (rv.Value == 0 && (rv.Stats.Blocks == 0 && (rv.Stats.Asked == 0 && (rv.Stats.Words == 0 && (rv.Stats.Kept == 0 && (rv.Stats.Open == 0 && (rv.Stats.Mapped == 0 && (rv.Stats.Used == 0 && true)))))) && true))))), m_Bv, m_Wv) else (bif (inR y2 m_Bv.length) then (bif (inR (offs y2 0) m_Bv.length) then some ((rv.Err == (0 : Int) && (rv.Addr == (0 : Int) && (rv.Size == List.getD (m_Bv.getD (Int.toNat (offs y2 (0 : Nat))) (List.replicate (3 : Nat) (0 : Int))) (2 : Nat) (0 : Int) && (rv.Value == (0 : Int) && (rv.Stats.Blocks == (0 : Int) && (rv.Stats.Asked == (0 : Int) && (rv.Stats.Words == (0 : Int) && (rv.Stats.Kept == (0 : Int) && (rv.Stats.Open == (0 : Int) && (rv.Stats.Mapped == (0 : Int) && (rv.Stats.Used == (0 : Int) && true)))))) && true))))), m_Bv, m_Wv) else none) else none)) else (bif (c.Kind == 7) then some ((rv.Err == 0 && (rv.Addr == 0 && (rv.Size == 0 && (rv.Value == 0 && (rv.Stats.Blocks == 0 && (rv.Stats.Asked == 0 && (rv.Stats.Words == 0 && (rv.Stats.Kept == 0 && (rv.Stats.Open == 0 && (rv.Stats.Mapped == 0 && (rv.Stats.Used == 0 && true)))))) && true))))), m_Bv, m_Wv) else (bif (c.Kind == 9) then some ((rv.Err == 0 && (rv.Addr == 0 && (rv.Size == 0 && (rv.Value == 0 && (rv.Stats.Blocks == 0 && (rv.Stats.Asked == 0 && (rv.Stats.Words == 0 && (rv.Stats.Kept == 0 && (rv.Stats.Open == 0 && (rv.Stats.Mapped == 0 && (rv.Stats.Used == 0 && true)))))) && true))))), m_Bv, m_Wv) else (bif (c.Kind == 8) then (bif (rv.Err == 0 && (rv.Addr == 0 && (rv.Size == rv.Size && (rv.Value == 0 && (rv.Stats.Blocks == 0 && (rv.Stats.Asked == 0 && (rv.Stats.Words == 0 && (rv.Stats.Kept == 0 && (rv.Stats.Open == 0 && (rv.Stats.Mapped == 0 && (rv.Stats.Used == 0 && true)))))) && true))))) then (bif (decide (rv.Size ≥ 0)) then some ((decide (rv.Size ≤ m_Lv.C.Pages)), m_Bv, m_Wv) else some (false, m_Bv, m_Wv)) else some (false, m_Bv, m_Wv)) else (bif (c.Kind == 10) then ((y2y m_Lv m_Bv m_Wv).bind fun y10 => (bif (rv.Err == 0 && (rv.Addr == 0 && (rv.Size == 0 && (rv.Value == 0 && (rv.Stats.Blocks == rv.Stats.Blocks && (rv.Stats.Asked == rv.Stats.Asked && (rv.Stats.Words == rv.Stats.Words && (rv.Stats.Kept == rv.Stats.Kept && (rv.Stats.Open == rv.Stats.Open && (rv.Stats.Mapped == rv.Stats.Mapped && (rv.Stats.Used == rv.Stats.Used && true)))))) && true))))) then (bif (decide (rv.Stats.Mapped ≤ m_Lv.C.Pages)) then ((y2g rv.Stats).bind fun y11 => (bif y11 then (bif (rv.Stats.Blocks == y10.1) then (bif (rv.Stats.Asked == y10.2.1) then some ((rv.Stats.Words == y10.2.2), m_Bv, m_Wv) else some (false, m_Bv, m_Wv)) else some (false, m_Bv, m_Wv)) else some (false, m_Bv, m_Wv))) else some (false, m_Bv, m_Wv)) else some (false, m_Bv, m_Wv))) else ((y0o c.Addr m_Lv m_Bv m_Wv).bind fun y12 => (bif (decide (y12 < 0)) then some ((rv.Err == 7 && (rv.Addr == 0 && (rv.Size == 0 && (rv.Value == 0 && (rv.Stats.Blocks == 0 && (rv.Stats.Asked == 0 && (rv.Stats.Words == 0 && (rv.Stats.Kept == 0 && (rv.Stats.Open == 0 && (rv.Stats.Mapped == 0 && (rv.Stats.Used == 0 && true)))))) && true))))), m_Bv, m_Wv) else ((yr m_Lv).bind fun y13 => (bif (c.Kind == 11) then (bif (inR (IntKind.i64.wrap (c.Addr - y13)) m_Wv.length) then (bif (inR (offs (IntKind.i64.wrap (c.Addr - y13)) 0) m_Wv.length) then some ((rv.Err == 0 && (rv.Addr == 0 && (rv.Size == 0 && (rv.Value == m_Wv.getD (Int.toNat (offs (IntKind.i64.wrap (c.Addr - y13)) 0)) 0 && (rv.Stats.Blocks == 0 && (rv.Stats.Asked == 0 && (rv.Stats.Words == 0 && (rv.Stats.Kept == 0 && (rv.Stats.Open == 0 && (rv.Stats.Mapped == 0 && (rv.Stats.Used == 0 && true)))))) && true))))), m_Bv, m_Wv) else none) else none) else (bif (!(rv.Err == 0 && (rv.Addr == 0 && (rv.Size == 0 && (rv.Value == 0 && (rv.Stats.Blocks == 0 && (rv.Stats.Asked == 0 && (rv.Stats.Words == 0 && (rv.Stats.Kept == 0 && (rv.Stats.Open == 0 && (rv.Stats.Mapped == 0 && (rv.Stats.Used == 0 && true)))))) && true)))))) then some (false, m_Bv, m_Wv) else (bif (inR (IntKind.i64.wrap (c.Addr - y13)) m_Wv.length) then (bif (inR (offs (IntKind.i64.wrap (c.Addr - y13)) 0) m_Wv.length) then some (true, m_Bv, (List.set m_Wv (Int.toNat (offs (IntKind.i64.wrap (c.Addr - y13)) 0)) c.Value)) else none) else none))))))))))))))))))))
attribute [local irreducible] Loop ex exF contK roundK retK at_ bodyOf mkEnv exFW retW
theorem yjy : SpecOK Try.prog elTT 11 (yds y0l) := by
  refine spec_of_exFW (cfg := ybz) (yn rfl rfl rfl) yp (pre := []) (wk := wk_ref20_New) (fn := Try.f11) (by kernel_rfl) (by kernel_rfl) (by kernel_rfl) ?_
  intro args H K h
  change y9g y0l args H K at h
  unfold y9g at h
  repeat first | (obtain ⟨_, h⟩ := h) | replace h := Des.el h
  subst_vars
  refine Eq.mpr (yj1 _ K) ?_
  unfold y0l at h
  revert h
  exact req_So (fun h => h)
theorem ybb : SpecOK Try.prog elTT 85 (y6k y00) := by
  refine spec_of_exF (cfg := (y9z y36)) (yn rfl rfl rfl) (yj yhq yp) (fn := Try.f85) (by kernel_rfl) (by kernel_rfl) (by kernel_rfl) ?_
  intro args H K h
  change y85 y00 args H K at h
  unfold y85 at h
  repeat first | (obtain ⟨_, h⟩ := h) | replace h := Des.el h
  subst_vars
  refine Eq.mpr (yhf y36 _ _ K) ?_
  unfold y00 at h
  revert h
  exact br_So (fun h => h) (bind_So fun y0 => fun h => h)
theorem lpok_ref20_Model_at_L1 (a : Int) (m_Lv : T_assartref02_Layout) (m_Bv : List (List Int)) (m_Wv : List Int) (iv : Int) (K : V → Heap → Prop) : So (yef a m_Bv iv) (fun (x : Int) => K (vi x) [.rcells (y05 m_Lv ++ [.row 1, .row 2]), .row 6 m_Bv true, .row 0 m_Wv true]) → Loop y3l (⟨26, 3⟩ : Cx) (at_ (bodyOf Try.f44) [1, 0, 1, 0, 0]) (mkEnv [(0, .ptr 0 0), (1, vi a), (5, vi iv)]) [.rcells (yl m_Lv.C ++ [.row 1, .row 2]), .row 6 m_Bv true, .row 0 m_Wv true] (contK y3l (⟨26, 3⟩ : Cx) (bodyOf Try.f44) [1, 0, 1, 0] (retK y3l Try.f44 3 K)) := by
  refine loopK_So (fun (s_ : Int) => (mkEnv [(0, .ptr 0 0), (1, vi a), (5, vi s_)])) (fun (s_ : Int) => [.rcells (yl m_Lv.C ++ [.row 1, .row 2]), .row 6 m_Bv true, .row 0 m_Wv true]) (fun (x : Int) => K (vi x) [.rcells (y05 m_Lv ++ [.row 1, .row 2]), .row 6 m_Bv true, .row 0 m_Wv true]) ?_ iv
  intro s_ J1 h
  clear iv
  revert h; revert s_; intro iv h
  refine Eq.mpr (yh6 a m_Lv m_Bv m_Wv iv K J1) ?_
  have h : So (y51 a m_Bv iv) _ := h
  unfold y51 at h
  revert h
  exact br_So (req_So (req_So (br_So (fun h => h) (fun h => h)))) (fun h => h)
theorem ybj : SpecOK Try.prog elTT 44 (y7d y0n) := by
  refine spec_of_exF (cfg := y3l) (yn rfl rfl rfl) yp (fn := Try.f44) (by kernel_rfl) (by kernel_rfl) (by kernel_rfl) ?_
  intro args H K h
  change y9d y0n args H K at h
  unfold y9d at h
  repeat first | (obtain ⟨_, h⟩ := h) | replace h := Des.el h
  subst_vars
  refine Eq.mpr (yfz _ _ _ _ K) ?_
  unfold y0n at h
  revert h
  exact lpok_ref20_Model_at_L1 _ _ _ _ _ K
theorem lpok_ref20_Model_of_L1 (a : Int) (m_Lv : T_assartref02_Layout) (m_Bv : List (List Int)) (m_Wv : List Int) (iv : Int) (K : V → Heap → Prop) : So (yan a m_Bv iv) (fun (x : Int) => K (vi x) [.rcells (y05 m_Lv ++ [.row 1, .row 2]), .row 6 m_Bv true, .row 0 m_Wv true]) → Loop y3c (⟨47, 3⟩ : Cx) (at_ (bodyOf Try.f50) [1, 0, 1, 0, 0]) (mkEnv [(0, .ptr 0 0), (1, vi a), (5, vi iv)]) [.rcells (yl m_Lv.C ++ [.row 1, .row 2]), .row 6 m_Bv true, .row 0 m_Wv true] (contK y3c (⟨47, 3⟩ : Cx) (bodyOf Try.f50) [1, 0, 1, 0] (retK y3c Try.f50 3 K)) := by
  refine loopK_So (fun (s_ : Int) => (mkEnv [(0, .ptr 0 0), (1, vi a), (5, vi s_)])) (fun (s_ : Int) => [.rcells (yl m_Lv.C ++ [.row 1, .row 2]), .row 6 m_Bv true, .row 0 m_Wv true]) (fun (x : Int) => K (vi x) [.rcells (y05 m_Lv ++ [.row 1, .row 2]), .row 6 m_Bv true, .row 0 m_Wv true]) ?_ iv
  intro s_ J1 h
  clear iv
  revert h; revert s_; intro iv h
  refine Eq.mpr (yf0 a m_Lv m_Bv m_Wv iv K J1) ?_
  have h : So (y4s a m_Bv iv) _ := h
  unfold y4s at h
  revert h
  exact br_So (req_So (req_So (br_So (req_So (req_So (req_So (req_So (br_So (fun h => h) (fun h => h)))))) (fun h => h)))) (fun h => h)
theorem yeb : SpecOK Try.prog elTT 50 (y6j y0o) := by
  refine spec_of_exF (cfg := y3c) (yn rfl rfl rfl) yp (fn := Try.f50) (by kernel_rfl) (by kernel_rfl) (by kernel_rfl) ?_
  intro args H K h
  change y66 y0o args H K at h
  unfold y66 at h
  repeat first | (obtain ⟨_, h⟩ := h) | replace h := Des.el h
  subst_vars
  refine Eq.mpr (ygb _ _ _ _ K) ?_
  unfold y0o at h
  revert h
  exact lpok_ref20_Model_of_L1 _ _ _ _ _ K
theorem ydx : SpecOK Try.prog elTT 47 (y7i y0g) := by
  refine spec_of_exFW (cfg := yda) (yn rfl rfl rfl) yp (pre := []) (wk := wk_ref20_Model_without) (fn := Try.f47) (by kernel_rfl) (by kernel_rfl) (by kernel_rfl) ?_
  intro args H K h
  change y87 y0g args H K at h
  unfold y87 at h
  repeat first | (obtain ⟨_, h⟩ := h) | replace h := Des.el h
  subst_vars
  refine Eq.mpr (yer _ _ _ _ _ K) ?_
  unfold y0g at h
  revert h
  exact req_So (req_So (req_So (req_So (req_So (req_So (fun h => h))))))
theorem lpok_ref20_Model_fits_L1 (c : yc) (rv : T_api_Reply) (m_Lv : T_assartref02_Layout) (m_Bv : List (List Int)) (m_Wv : List Int) (want a : Int) (K : V → Heap → Prop) : So (y4t rv m_Lv m_Bv m_Wv want a) (fun (x : Bool) => K (vb x) [.rcells (y05 m_Lv ++ [.row 1, .row 2]), .row 6 m_Bv true, .row 0 m_Wv true]) → Loop (y29 y00 yr y0m y0o) (⟨82, 3⟩ : Cx) (at_ (bodyOf Try.f84) [1, 1, 1, 1, 1, 0, 1, 0, 0]) (mkEnv [(0, .ptr 0 0), (5, .ptr 3 0), (8, vi want), (9, vi a)]) [.rcells (yl m_Lv.C ++ [.row 1, .row 2]), .row 6 m_Bv true, .row 0 m_Wv true, .cells 46 (y07 rv)] (contK (y29 y00 yr y0m y0o) (⟨82, 3⟩ : Cx) (bodyOf Try.f84) [1, 1, 1, 1, 1, 0, 1, 0] (retK (y29 y00 yr y0m y0o) Try.f84 3 K)) := by
  refine loopK_So (fun (s_ : Int) => (mkEnv [(0, .ptr 0 0), (5, .ptr 3 0), (8, vi want), (9, vi s_)])) (fun (s_ : Int) => [.rcells (yl m_Lv.C ++ [.row 1, .row 2]), .row 6 m_Bv true, .row 0 m_Wv true, .cells 46 (y07 rv)]) (fun (x : Bool) => K (vb x) [.rcells (y05 m_Lv ++ [.row 1, .row 2]), .row 6 m_Bv true, .row 0 m_Wv true]) ?_ a
  intro s_ J1 h
  clear a
  revert h; revert s_; intro a h
  refine Eq.mpr (yg7 y00 yr y0m y0o c rv m_Lv m_Bv m_Wv want a K J1) ?_
  have h : So (y4n rv m_Lv m_Bv m_Wv want a) _ := h
  unfold y4n at h
  revert h
  exact br_So (bind_So fun y0 => br_So (fun h => h) (fun h => h)) (fun h => h)
theorem ygl : SpecOK Try.prog elTT 84 (yab y1k) := by
  refine spec_of_exF (cfg := (y29 y00 yr y0m y0o)) (yn rfl rfl rfl) (yj ybb (yj y52 (yj yfo (yj yeb yp)))) (fn := Try.f84) (by kernel_rfl) (by kernel_rfl) (by kernel_rfl) ?_
  intro args H K h
  change y6z y1k args H K at h
  unfold y6z at h
  repeat first | (obtain ⟨_, h⟩ := h) | replace h := Des.el h
  subst_vars
  refine Eq.mpr (yeq y00 yr y0m y0o _ _ _ _ _ K) ?_
  unfold y1k at h
  revert h
  exact br_So (bind_So fun y0 => br_So (fun h => h) (br_So (fun h => h) (bind_So fun y1 => br_So (fun h => h) (bind_So fun y2 => br_So (fun h => h) (bind_So fun y3 => br_So (fun h => h) (req_So (br_So (fun h => h) (lpok_ref20_Model_fits_L1 (by first | assumption | exact default) _ _ _ _ _ _ K)))))))) (bind_So fun y4 => br_So (fun h => h) (br_So (fun h => h) (bind_So fun y5 => br_So (fun h => h) (bind_So fun y6 => br_So (fun h => h) (bind_So fun y7 => br_So (fun h => h) (br_So (fun h => h) (lpok_ref20_Model_fits_L1 (by first | assumption | exact default) _ _ _ _ _ _ K)))))))
theorem lpok_ref20_Model_news_L1 (c : yc) (rv : T_api_Reply) (m_Lv : T_assartref02_Layout) (m_Bv : List (List Int)) (m_Wv : List Int) (U : TypeId) (fromv iv : Int) (m_Wvv : List Int) (K : V → Heap → Prop) : So (y54 c rv m_Bv fromv (iv, m_Wvv)) (fun (x : Bool × (List (List Int)) × (List Int)) => K (vb x.1) [.cells U (y05 m_Lv ++ [.row 3, .row 4]), .dead, .dead, .row 6 x.2.1 false, .row 0 x.2.2 false]) → Loop (y3e y1k yr) (⟨62, 3⟩ : Cx) (at_ (bodyOf Try.f45) [1, 1, 1, 1, 0, 1, 0, 0]) (mkEnv [(0, .ptr 0 0), (4, .ptr 3 0), (5, .ptr 4 0), (7, vi fromv), (8, vi iv)]) [.cells U (yl m_Lv.C ++ [.row 1, .row 2]), .row 6 m_Bv false, .row 0 m_Wvv false, .cells 42 (y0p c), .cells 46 (y07 rv)] (contK (y3e y1k yr) (⟨62, 3⟩ : Cx) (bodyOf Try.f45) [1, 1, 1, 1, 0, 1, 0] (retW (y3e y1k yr) wk_ref20_Model_news Try.f45 3 K)) := by
  refine loopK_So (fun (s_ : Int × (List Int)) => (mkEnv [(0, .ptr 0 0), (4, .ptr 3 0), (5, .ptr 4 0), (7, vi fromv), (8, vi s_.1)])) (fun (s_ : Int × (List Int)) => [.cells U (yl m_Lv.C ++ [.row 1, .row 2]), .row 6 m_Bv false, .row 0 (s_.2 : List Int) false, .cells 42 (y0p c), .cells 46 (y07 rv)]) (fun (x : Bool × (List (List Int)) × (List Int)) => K (vb x.1) [.cells U (y05 m_Lv ++ [.row 3, .row 4]), .dead, .dead, .row 6 x.2.1 false, .row 0 x.2.2 false]) ?_ (iv, m_Wvv)
  intro s_ J1 h
  clear iv
  clear m_Wvv
  obtain ⟨iv, m_Wvv⟩ := s_
  refine Eq.mpr (yfi y1k yr c rv m_Lv m_Bv m_Wv U fromv iv m_Wvv K J1) ?_
  have h : So (y3v c rv m_Bv fromv iv m_Wvv) _ := h
  unfold y3v at h
  revert h
  exact br_So (br_So (req_So (req_So (fun h => h))) (alt_So (alt_So (req_So (req_So (fun h => h))) (req_So (req_So (fun h => h)))) (req_So (req_So (fun h => h))))) (alt_So (alt_So (req_So (req_So (fun h => h))) (req_So (req_So (fun h => h)))) (req_So (req_So (fun h => h))))
theorem ydk : SpecOK Try.prog elTT 45 (y9r y0f) := by
  refine spec_of_exFW (cfg := (y3e y1k yr)) (yn rfl rfl rfl) (yj ygl (yj y52 yp)) (pre := []) (wk := wk_ref20_Model_news) (fn := Try.f45) (by kernel_rfl) (by kernel_rfl) (by kernel_rfl) ?_
  intro args H K h
  change y67 y0f args H K at h
  unfold y67 at h
  repeat first | (obtain ⟨_, h⟩ := h) | replace h := Des.el h
  subst_vars
  refine Eq.mpr (ygs y1k yr _ _ _ _ _ _ K) ?_
  unfold y0f at h
  revert h
  exact br_So (fun h => h) (bind_So fun y0 => br_So (fun h => h) (bind_So fun y1 => lpok_ref20_Model_news_L1 _ _ _ _ (by first | assumption | exact default) _ _ _ _ K))
theorem lpok_ref20_Model_again_L1 (c : yc) (rv : T_api_Reply) (iv : Int) (m_Lv : T_assartref02_Layout) (m_Bv : List (List Int)) (m_Wv : List Int) (U : TypeId) (to fromv k : Int) (c2 : y34) (w : List (List Int)) (w2 : List Int) (K : V → Heap → Prop) : So (y5k c m_Lv to fromv c2 w (k, w2)) (fun (x : Bool × (List (List Int)) × (List Int)) => K (vb x.1) [.cells U (y05 m_Lv ++ [.row 3, .row 4]), .dead, .dead, .row 6 x.2.1 false, .row 0 x.2.2 false]) → Loop (y3o y00 y0g y0f yr y0n) (⟨111, 3⟩ : Cx) (at_ (bodyOf Try.f46) [1, 1, 1, 1, 0, 1, 0, 1, 1, 0, 1, 0, 0]) (mkEnv [(0, .ptr 0 0), (5, .ptr 3 0), (9, .ptr 4 0), (10, vi to), (11, vi fromv), (12, vi k)]) [.cells U (yl m_Lv.C ++ [.row 5, .row 6]), .dead, .dead, .cells 42 (y0p c), .cells 59 (y5n c2), .row 6 w false, .row 0 w2 false] (contK (y3o y00 y0g y0f yr y0n) (⟨111, 3⟩ : Cx) (bodyOf Try.f46) [1, 1, 1, 1, 0, 1, 0, 1, 1, 0, 1, 0] (retW (y3o y00 y0g y0f yr y0n) wk_ref20_Model_again Try.f46 3 K)) := by
  refine loopK_So (fun (s_ : Int × (List Int)) => (mkEnv [(0, .ptr 0 0), (5, .ptr 3 0), (9, .ptr 4 0), (10, vi to), (11, vi fromv), (12, vi s_.1)])) (fun (s_ : Int × (List Int)) => [.cells U (yl m_Lv.C ++ [.row 5, .row 6]), .dead, .dead, .cells 42 (y0p c), .cells 59 (y5n c2), .row 6 w false, .row 0 (s_.2 : List Int) false]) (fun (x : Bool × (List (List Int)) × (List Int)) => K (vb x.1) [.cells U (y05 m_Lv ++ [.row 3, .row 4]), .dead, .dead, .row 6 x.2.1 false, .row 0 x.2.2 false]) ?_ (k, w2)
  intro s_ J1 h
  clear k
  clear w2
  obtain ⟨k, w2⟩ := s_
  refine Eq.mpr (yid y00 y0g y0f yr y0n c rv iv m_Lv m_Bv m_Wv U to fromv k c2 w w2 K J1) ?_
  have h : So (y4j c m_Lv to fromv c2 w k w2) _ := h
  unfold y4j at h
  revert h
  exact br_So (br_So (req_So (req_So (req_So (req_So (fun h => h))))) (bind_So fun y0 => bind_So fun y1 => fun h => h)) (bind_So fun y2 => bind_So fun y3 => fun h => h)
theorem ygy : SpecOK Try.prog elTT 46 (ya7 y32) := by
  refine spec_of_exFW (cfg := (y3o y00 y0g y0f yr y0n)) (yn rfl rfl rfl) (yj ybb (yj ydx (yj ydk (yj y52 (yj ybj yp))))) (pre := []) (wk := wk_ref20_Model_again) (fn := Try.f46) (by kernel_rfl) (by kernel_rfl) (by kernel_rfl) ?_
  intro args H K h
  change y80 y32 args H K at h
  unfold y80 at h
  repeat first | (obtain ⟨_, h⟩ := h) | replace h := Des.el h
  subst_vars
  refine Eq.mpr (yev y00 y0g y0f yr y0n _ _ _ _ _ _ _ K) ?_
  unfold y32 at h
  revert h
  exact req_So (req_So (bind_So fun y0 => br_So (br_So (fun h => h) (bind_So fun y1 => req_So (fun h => h))) (bind_So fun y2 => br_So (fun h => h) (br_So (bind_So fun y3 => bind_So fun y4 => lpok_ref20_Model_again_L1 _ (by first | assumption | exact default) (by first | assumption | exact default) _ (by first | assumption | exact default) (by first | assumption | exact default) _ _ _ _ _ _ _ K) (fun h => h)))))
theorem lpok_ref20_Model_total_L1 (m_Lv : T_assartref02_Layout) (m_Bv : List (List Int)) (m_Wv : List Int) (asked words iv : Int) (K : V → Heap → Prop) : So (y7q m_Bv (asked, words, iv)) (fun (x : Int × Int × Int) => K (.tup [vi x.1, vi x.2.1, vi x.2.2]) [.rcells (y05 m_Lv ++ [.row 1, .row 2]), .row 6 m_Bv true, .row 0 m_Wv true]) → Loop y3m (⟨44, 3⟩ : Cx) (at_ (bodyOf Try.f48) [1, 1, 1, 0, 1, 0, 0]) (mkEnv [(0, .ptr 0 0), (5, vi asked), (6, vi words), (7, vi iv)]) [.rcells (yl m_Lv.C ++ [.row 1, .row 2]), .row 6 m_Bv true, .row 0 m_Wv true] (contK y3m (⟨44, 3⟩ : Cx) (bodyOf Try.f48) [1, 1, 1, 0, 1, 0] (retK y3m Try.f48 3 K)) := by
  refine loopK_So (fun (s_ : Int × Int × Int) => (mkEnv [(0, .ptr 0 0), (5, vi s_.1), (6, vi s_.2.1), (7, vi s_.2.2)])) (fun (s_ : Int × Int × Int) => [.rcells (yl m_Lv.C ++ [.row 1, .row 2]), .row 6 m_Bv true, .row 0 m_Wv true]) (fun (x : Int × Int × Int) => K (.tup [vi x.1, vi x.2.1, vi x.2.2]) [.rcells (y05 m_Lv ++ [.row 1, .row 2]), .row 6 m_Bv true, .row 0 m_Wv true]) ?_ (asked, words, iv)
  intro s_ J1 h
  clear asked
  clear words
  clear iv
  obtain ⟨asked, words, iv⟩ := s_
  refine Eq.mpr (yg4 m_Lv m_Bv m_Wv asked words iv K J1) ?_
  have h : So (y4f m_Bv asked words iv) _ := h
  unfold y4f at h
  revert h
  exact br_So (req_So (req_So (req_So (req_So (fun h => h))))) (fun h => h)
theorem yif : SpecOK Try.prog elTT 48 (yd8 y2y) := by
  refine spec_of_exF (cfg := y3m) (yn rfl rfl rfl) yp (fn := Try.f48) (by kernel_rfl) (by kernel_rfl) (by kernel_rfl) ?_
  intro args H K h
  change y74 y2y args H K at h
  unfold y74 at h
  repeat first | (obtain ⟨_, h⟩ := h) | replace h := Des.el h
  subst_vars
  refine Eq.mpr (yjx _ _ _ K) ?_
  unfold y2y at h
  revert h
  exact lpok_ref20_Model_total_L1 _ _ _ _ _ _ K
theorem yik : SpecOK Try.prog elTT 16 (ydy y0h) := by
  refine spec_of_exFW (cfg := (ya5 y2b y0n y0f y32 y0g y2y y2g y0o yr)) (yn rfl rfl rfl) (yj yfx (yj ybj (yj ydk (yj ygy (yj ydx (yj yif (yj yhd (yj yeb (yj y52 yp))))))))) (pre := []) (wk := wk_ref20_Model_Step) (fn := Try.f16) (by kernel_rfl) (by kernel_rfl) (by kernel_rfl) ?_
  intro args H K h
  change y8x y0h args H K at h
  unfold y8x at h
  repeat first | (obtain ⟨_, h⟩ := h) | replace h := Des.el h
  subst_vars
  refine Eq.mpr (yjj y2b y0n y0f y32 y0g y2y y2g y0o yr _ _ _ _ _ _ K) ?_
  unfold y0h at h
  revert h
  exact br_So (fun h => h) (bind_So fun y0 => br_So (bind_So fun y1 => fun h => h) (bind_So fun y2 => br_So (bind_So fun y3 => fun h => h) (br_So (bind_So fun y4 => fun h => h) (br_So (bind_So fun y5 => fun h => h) (br_So (br_So (bind_So fun y6 => fun h => h) (br_So (fun h => h) (bind_So fun y7 => fun h => h))) (br_So (br_So (br_So (fun h => h) (br_So (fun h => h) (br_So (bind_So fun y8 => fun h => h) (fun h => h)))) (br_So (fun h => h) (br_So (bind_So fun y9 => fun h => h) (fun h => h)))) (br_So (br_So (fun h => h) (req_So (req_So (fun h => h)))) (br_So (fun h => h) (br_So (fun h => h) (br_So (br_So (br_So (fun h => h) (fun h => h)) (fun h => h)) (br_So (bind_So fun y10 => br_So (br_So (bind_So fun y11 => br_So (br_So (br_So (fun h => h) (fun h => h)) (fun h => h)) (fun h => h)) (fun h => h)) (fun h => h)) (bind_So fun y12 => br_So (fun h => h) (bind_So fun y13 => br_So (req_So (req_So (fun h => h))) (br_So (fun h => h) (req_So (req_So (fun h => h)))))))))))))))))
end Go.Rx
end

section
namespace Go.Rx
open Go.Proofs
section
variable {d : yb} {Lr : T_assartref02_Layout} {its B : List (List Int)} {ws : List Int}
theorem rat_spec (B : List (List Int)) (hn : B.length ≤ 1048576) (a : Int) : ∃ r, y0n a Lr B ws = some r ∧ ((r = -1 ∧ ∀ x ∈ B, kk x ≠ a) ∨ (∃ A b D, B = A ++ b :: D ∧ kk b = a ∧ r = (A.length : Int))) := by
  obtain ⟨r, h1, h2⟩ := scanS (step := fun s => y51 a B s) (l := B) (fun A => (A.length : Int)) (fun A => ∀ x ∈ A, kk x ≠ a) (fun r => (r = -1 ∧ ∀ x ∈ B, kk x ≠ a) ∨ (∃ A b D, B = A ++ b :: D ∧ kk b = a ∧ r = (A.length : Int)))
    (fun A b C e hA => by
      have hlt : decide ((A.length : Int) < (B.length : Int)) = true := by rw [e]; exact mid_lt A b C
      have hl : A.length < B.length := by rw [e]; simp
      have hi : inR (A.length : Int) B.length = true := by rw [e]; exact mid_in A b C
      have hg : B.getD A.length (List.replicate 3 0) = b := by rw [e]; exact mid_get A b C _
      have eb : List.getD b 0 0 = kk b := rfl
      simp only [y51, hlt, cond_true, offs0, hi, Int.toNat_natCast, hg, eb]
      by_cases hk : kk b = a
      · right
        exact ⟨_, by rw [show (kk b == a) = true by simpa using hk, cond_true], .inr ⟨A, b, C, e, hk, rfl⟩⟩
      · left
        refine ⟨by rw [show (kk b == a) = false by simpa using hk, cond_false, wrap_succ (by omega)]; simp, fun x hx => ?_⟩
        rcases List.mem_append.1 hx with hx | hx
        · exact hA x hx
        · simp at hx; subst hx; exact hk)
    (fun hA => ⟨-1, by
      simp only [y51]
      rw [decide_eq_false (by omega), cond_false], .inl ⟨rfl, hA⟩⟩)
    (by simp)
  exact ⟨r, h1, h2⟩
theorem rof_spec (B : List (List Int)) (hn : B.length ≤ 1048576) (hB : ∀ x ∈ B, 0 ≤ kk x + ww x ∧ kk x + ww x ≤ 1000000) (a : Int) : ∃ r, y0o a Lr B ws = some r ∧ decide (r ≥ 0) = B.any (fun x => decide (hasW x a)) ∧ decide (r < 0) = !B.any (fun x => decide (hasW x a)) := by
  obtain ⟨r, h1, h2⟩ := scanS (step := fun s => y4s a B s) (l := B) (fun A => (A.length : Int)) (fun A => ∀ x ∈ A, ¬ hasW x a) (fun r => (r = -1 ∧ ∀ x ∈ B, ¬ hasW x a) ∨ (0 ≤ r ∧ ∃ x ∈ B, hasW x a))
    (fun A b C e hA => by
      have hlt : decide ((A.length : Int) < (B.length : Int)) = true := by rw [e]; exact mid_lt A b C
      have hl : A.length < B.length := by rw [e]; simp
      have hi : inR (A.length : Int) B.length = true := by rw [e]; exact mid_in A b C
      have hg : B.getD A.length (List.replicate 3 0) = b := by rw [e]; exact mid_get A b C _
      have hm : b ∈ B := by rw [e]; simp
      have hb := hB b hm
      have eb : List.getD b 0 0 = kk b := rfl
      have ew : List.getD b 2 0 = ww b := rfl
      have nx : (¬ hasW b a) → ∀ x ∈ A ++ [b], ¬ hasW x a := fun hk x hx => by
        rcases List.mem_append.1 hx with hx | hx
        · exact hA x hx
        · simp at hx; subst hx; exact hk
      simp only [y4s, hlt, cond_true, offs0, hi, Int.toNat_natCast, hg, eb, ew]
      rw [wrap_id (x := kk b + ww b) (by omega) (by omega)]
      by_cases h1 : a ≥ kk b
      · by_cases h2 : a < kk b + ww b
        · right
          exact ⟨_, by rw [decide_eq_true h1, decide_eq_true h2, cond_true, cond_true], .inr ⟨by omega, b, hm, ⟨h1, h2⟩⟩⟩
        · left
          exact ⟨by rw [decide_eq_true h1, decide_eq_false h2, cond_true, cond_false, wrap_succ (by omega)]; simp, nx fun h => h2 h.2⟩
      · left
        exact ⟨by rw [decide_eq_false h1, cond_false, wrap_succ (by omega)]; simp, nx fun h => h1 h.1⟩)
    (fun hA => ⟨-1, by
      simp only [y4s]
      rw [decide_eq_false (by omega), cond_false], .inl ⟨rfl, hA⟩⟩)
    (by simp)
  refine ⟨r, h1, ?_⟩
  rcases h2 with ⟨rfl, h2⟩ | ⟨h2, x, h3, h4⟩
  · have : B.any (fun x => decide (hasW x a)) = false := by
      rw [List.any_eq_false]; intro x hx; simpa using h2 x hx
    rw [this]; exact ⟨rfl, rfl⟩
  · have : B.any (fun x => decide (hasW x a)) = true := List.any_eq_true.2 ⟨x, h3, by simpa using h4⟩
    rw [this, decide_eq_true h2, decide_eq_false (by omega)]; exact ⟨rfl, rfl⟩
theorem rwithout_eq (A : List (List Int)) (b : List Int) (D : List (List Int)) (hn : (A ++ b :: D).length ≤ 1048576) : y0g (A.length : Int) Lr (A ++ b :: D) ws = some (A ++ D, ws) := by
  have hl : (A ++ b :: D).length = A.length + (D.length + 1) := by simp
  rw [hl] at hn
  unfold y0g
  have w : IntKind.wrap IntKind.i64 ((A.length : Int) + 1) = ((A.length + 1 : Nat) : Int) := wrap_succ (by omega)
  rw [w, Int.toNat_natCast, Int.toNat_natCast, hl]
  have e1 : List.take A.length (List.drop 0 (A ++ b :: D)) = A := by simp
  have e2 : List.drop (A.length + 1) (A ++ b :: D) = D := by rw [← List.drop_drop]; simp
  have e3 : List.take (A.length + (D.length + 1) - (A.length + 1)) D = D := List.take_of_length_le (by omega)
  rw [e1, e2, e3, decide_eq_true (by omega), decide_eq_true (by omega), decide_eq_true (by omega), decide_eq_true (by omega), decide_eq_true (by omega), decide_eq_true (by omega)]; rfl
variable {L : ye}
theorem rat_rel (h : SOK L its) (hp : B.Perm its) (hn : its.length ≤ 1048576) (k : Int) : ∃ r, y0n k Lr B ws = some r ∧ ((r = -1 ∧ getK its k = none ∧ B.Perm (delK its k)) ∨
    (∃ A b D, B = A ++ b :: D ∧ r = (A.length : Int) ∧ getK its k = some b ∧ (A ++ D).Perm (delK its k) ∧ ∀ x, kk x = k → (A ++ D ++ [x]).Perm (updK its x))) := by
  obtain ⟨r, h1, h2⟩ := rat_spec (Lr := Lr) (ws := ws) B (by rw [hp.length_eq]; exact hn) k
  refine ⟨r, h1, ?_⟩
  rcases h2 with ⟨e, h2⟩ | ⟨A, b, D, e, hb, er⟩
  · have hall : ∀ x ∈ its, kk x ≠ k := fun x hx => h2 x (hp.mem_iff.2 hx)
    exact .inl ⟨e, get_no hall, by rw [del_no hall]; exact hp⟩
  · right
    have hm : b ∈ its := hp.mem_iff.1 (by rw [e]; simp)
    rcases h.look k with ⟨A', b', D', e', hb', _, hg, hd, hu⟩ | ⟨A', C', _, _, hno, _, _⟩
    · have hbb : b = b' := h.uniq hm (by rw [e']; simp) (by rw [hb, hb'])
      subst hbb
      have hp2 : (A ++ D).Perm (A' ++ D') := by
        have h1 : (b :: (A ++ D)).Perm (b :: (A' ++ D')) := by
          refine (List.perm_middle (l₁ := A) (l₂ := D)).symm.trans ?_
          rw [← e]
          refine hp.trans ?_
          rw [e']
          exact List.perm_middle
        exact h1.cons_inv
      refine ⟨A, b, D, e, er, hg, by rw [hd]; exact hp2, fun x hx => ?_⟩
      rw [hu x hx]
      refine (List.perm_append_comm).trans ?_
      exact (hp2.cons x).trans List.perm_middle.symm
    · exact absurd hb (hno b hm)
theorem rrnd_eq (n al : Int) : y00 n al = some (rndI n al) := by
  unfold y00 rndI
  by_cases h : n > 1048576
  · rw [decide_eq_true h, if_pos h]; rfl
  · rw [decide_eq_false h, if_neg h, rRound_eq _ _ (by omega)]; rfl
theorem rB_bound (h : SOK L its) (hp : B.Perm its) : ∀ x ∈ B, 0 ≤ kk x + ww x ∧ kk x + ww x ≤ 1000000 := fun x hx => by
  have hb := h.big
  have hB := h.all x (hp.mem_iff.1 hx)
  have := hB.lo; have := hB.hi; have := hB.one; omega
theorem rfitsL_eq (h : SOK L its) (hp : B.Perm its) (hn : its.length ≤ 1048576) {r : T_api_Reply} (ha : L.at_10 ≤ r.Addr ∧ r.Addr < L.at_11) {n : Int} (h0 : 0 ≤ n ∧ n ≤ L.at_11 - r.Addr) : y4t r Lr B ws n r.Addr = some (freeB its r.Addr n.toNat) := by
  have hb := h.big
  have hw : IntKind.wrap IntKind.i64 (r.Addr + n) = r.Addr + n := wrap_id (by omega) (by omega)
  obtain ⟨x, h1, h2⟩ := countS (step := fun s => y4n r Lr B ws n s) (fun i => r.Addr + (i : Int)) n.toNat (fun i => ∀ j, j < i → its.any (fun x => decide (hasW x (r.Addr + (j : Nat)))) = false) (fun x => x = freeB its r.Addr n.toNat)
    (fun i hi hI => by
      have hlt : decide (r.Addr + (i : Int) < r.Addr + n) = true := decide_eq_true (by omega)
      obtain ⟨y, hy, hy1, _⟩ := rof_spec (Lr := Lr) (ws := ws) B (by rw [hp.length_eq]; exact hn) (rB_bound h hp) (r.Addr + (i : Int))
      rw [any_perm hp] at hy1
      simp only [y4n, hw, hlt, cond_true, hy, Option.bind_some, hy1]
      cases hx : its.any (fun x => decide (hasW x (r.Addr + (i : Int)))) with
      | true => exact .inr ⟨false, rfl, (freeB_false hi hx).symm⟩
      | false =>
        left
        refine ⟨by rw [cond_false, wrap_id (by omega) (by omega), show r.Addr + (i : Int) + 1 = r.Addr + ((i + 1 : Nat) : Int) by omega], fun j hj => ?_⟩
        rcases Nat.lt_or_ge j i with h | h
        · exact hI j h
        · have : j = i := by omega
          subst this; exact hx)
    (fun hI => ⟨true, by
      simp only [y4n, hw]
      rw [decide_eq_false (by omega), cond_false], (freeB_true hI).symm⟩)
    (fun j hj => by omega)
  unfold y4t
  have h1 : loopO (fun s => y4n r Lr B ws n s) (r.Addr + ((0 : Nat) : Int)) = some x := h1
  rw [show r.Addr + ((0 : Nat) : Int) = r.Addr by omega] at h1
  rw [h1, h2]
end
section
variable {d : yb} {its B : List (List Int)} {ws : List Int}
theorem rfits_eq (hR : RightC d) (h : SOK (layC d) its) (hp : B.Perm its) (hn : its.length ≤ 1048576) {c : yc} {r : T_api_Reply} (hk : sized c) (hc : askP c) : y1k c r ⟨d⟩ B ws = some (fitB (layC d) its c r) := by
  have hb := h.big
  have hf := hc.2 hk
  have tail : ∀ (n : Int) (q : Option Bool) (t : Bool), (0 ≤ n) → (∀ _ : (layC d).at_10 ≤ r.Addr ∧ r.Addr < (layC d).at_11, ∀ _ : n ≤ (layC d).at_11 - r.Addr, q = some (t && freeB its r.Addr n.toNat)) →
      ((yr ⟨d⟩).bind fun y1 => bif decide (r.Addr < y1) then some false else (y0m ⟨d⟩).bind fun y2 => bif decide (r.Addr ≥ y2) then some false else (y0m ⟨d⟩).bind fun y3 => bif decide (n > IntKind.wrap IntKind.i64 (y3 - r.Addr)) then some false else q) =
      some (t && (decide ((layC d).at_10 ≤ r.Addr ∧ r.Addr < (layC d).at_11) && (decide (n ≤ (layC d).at_11 - r.Addr) && freeB its r.Addr n.toNat))) := by
    intro n q t hn0 hq
    rw [rUser_eq hR, Option.bind_some, rWords_eq hR, Option.bind_some, Option.bind_some]
    by_cases h1 : r.Addr < (layC d).at_10
    · rw [decide_eq_true h1, decide_eq_false (show ¬ ((layC d).at_10 ≤ r.Addr ∧ r.Addr < (layC d).at_11) by omega)]; cases t <;> rfl
    rw [decide_eq_false h1, cond_false]
    by_cases h2 : r.Addr ≥ (layC d).at_11
    · rw [decide_eq_true h2, decide_eq_false (show ¬ ((layC d).at_10 ≤ r.Addr ∧ r.Addr < (layC d).at_11) by omega)]; cases t <;> rfl
    rw [decide_eq_false h2, cond_false, decide_eq_true (show (layC d).at_10 ≤ r.Addr ∧ r.Addr < (layC d).at_11 by omega), wrap_id (by omega) (by omega)]
    by_cases h3 : n ≤ (layC d).at_11 - r.Addr
    · rw [decide_eq_false (by omega), cond_false, decide_eq_true h3, hq (by omega) h3]; cases t <;> rfl
    · rw [decide_eq_true (by omega), decide_eq_false h3]; cases t <;> rfl
  have nn : 0 ≤ rndI c.Size (alI c) := by
    unfold rndI; split
    · omega
    · have := roundI_le hf (by omega); omega
  have fin : ∀ al : Int, rndI c.Size (alI c) = rndI c.Size al → ∀ _ : (layC d).at_10 ≤ r.Addr ∧ r.Addr < (layC d).at_11, ∀ _ : rndI c.Size al ≤ (layC d).at_11 - r.Addr, (bif (Int.tmod r.Addr al != 0) then some false else y4t r ⟨d⟩ B ws (rndI c.Size al) r.Addr) = some ((Int.tmod r.Addr al == 0) && freeB its r.Addr (rndI c.Size al).toNat) := by
    intro al e h1 h2
    rw [rfitsL_eq h hp hn h1 ⟨by rw [← e]; exact nn, h2⟩]
    by_cases hm : Int.tmod r.Addr al = 0
    · rw [show (Int.tmod r.Addr al != 0) = false by simp [hm], show (Int.tmod r.Addr al == 0) = true by simp [hm]]; simp
    · rw [show (Int.tmod r.Addr al != 0) = true by simp [hm], show (Int.tmod r.Addr al == 0) = false by simp [hm]]; rfl
  unfold y1k fitB
  simp only [← eqR_def]
  by_cases h5 : c.Kind = 5
  · have ea : alI c = c.Align := by unfold alI; rw [if_pos h5]
    rw [ea] at nn hf ⊢
    rw [show (c.Kind == 5) = true by simp [h5], cond_true, rrnd_eq, Option.bind_some]
    have hal : (!c.Align == 0) = true := by
      have := hf.2; unfold powI at this
      have : c.Align ≠ 0 := by omega
      simpa using this
    have t := tail (rndI c.Size c.Align) _ (Int.tmod r.Addr c.Align == 0) nn (fin c.Align (by rw [ea]))
    rw [hal]
    simp only [cond_true]
    rw [t]
    cases eqR r 0 r.Addr (rndI c.Size c.Align) 0 <;> cases rndI c.Size c.Align == 0 <;> rfl
  · have ea : alI c = 1 := by unfold alI; rw [if_neg h5]
    rw [ea] at nn hf ⊢
    rw [show (c.Kind == 5) = false by simpa using h5, cond_false, rrnd_eq, Option.bind_some]
    have t := tail (rndI c.Size 1) _ (Int.tmod r.Addr 1 == 0) nn (fin 1 (by rw [ea]))
    rw [t]
    cases eqR r 0 r.Addr (rndI c.Size 1) 0 <;> cases rndI c.Size 1 == 0 <;> rfl
end
end Go.Rx
end

section
namespace Go.Rx
open Go.Proofs
section
variable {d : yb} {its B : List (List Int)} {ws : List Int}
def RR (o : Option (Bool × List (List Int) × List Int)) (x : Bool × List (List Int) × List Int) : Prop := ∃ B', o = some (x.1, B', x.2.2) ∧ B'.Perm x.2.1
theorem newsL_eq {c : yc} {r : T_api_Reply} {f : Int} (hB : B.length + 1 ≤ 1048576) (h0 : 0 ≤ f ∧ f + r.Size ≤ (ws.length : Int)) (hs : 0 ≤ r.Size ∧ r.Size ≤ 100000) (hf : f ≤ 100000) :
    y54 c r B f (0, ws) = some (true, B ++ [[r.Addr, c.Size, r.Size]], if c.Kind = 3 then zeroW ws f.toNat r.Size.toNat else ws) := by
  have e1 : decide (0 + B.length ≤ 1048576) = true := decide_eq_true (by omega)
  have e2 : decide (B.length + 1 ≤ 1048576) = true := decide_eq_true (by omega)
  by_cases h3 : c.Kind = 3
  · rw [if_pos h3]
    have hk : (c.Kind == 3) = true := by simpa using h3
    obtain ⟨x, h1, h2⟩ := countS (step := fun s => y3v c r B f s.1 s.2) (fun i => ((i : Int), zeroW ws f.toNat i)) r.Size.toNat (fun _ => True) (fun x => x = (true, B ++ [[r.Addr, c.Size, r.Size]], zeroW ws f.toNat r.Size.toNat))
      (fun i hi _ => by
        left
        refine ⟨?_, trivial⟩
        have hlt : decide ((i : Int) < r.Size) = true := decide_eq_true (by omega)
        have w1 : IntKind.wrap IntKind.i64 (f + (i : Int)) = f + (i : Int) := wrap_id (by omega) (by omega)
        have hin : inR (f + (i : Int)) (zeroW ws f.toNat i).length = true := by rw [zeroW_len]; exact inR_int (by omega) (by omega)
        simp only [y3v, hlt, cond_true, hk, w1, offs0, hin]
        rw [wrap_succ (by omega), show (f + (i : Int)).toNat = f.toNat + i by omega]
        rfl)
      (fun _ => ⟨_, by
        simp only [y3v]
        rw [decide_eq_false (by omega), cond_false, e1, e2, cond_true, cond_true], rfl⟩)
      trivial
    unfold y54
    have h1 : loopO (fun s => y3v c r B f s.1 s.2) (0, ws) = some x := h1
    rw [h1, h2]
  · rw [if_neg h3]
    have hk : (c.Kind == 3) = false := by simpa using h3
    unfold y54
    refine loopO_end ?_
    simp only [y3v, hk, e1, e2, cond_true, cond_false]
    cases decide (0 < r.Size) <;> rfl
theorem rnews_eq (hR : RightC d) (h : SOK (layC d) its) (hp : B.Perm its) (hn : its.length + 1 ≤ 1048576) (hw : (ws.length : Int) = (layC d).at_11 - (layC d).at_10) {c : yc} {r : T_api_Reply} (hk : sized c) (hc : askP c) :
    RR (y0f c r ⟨d⟩ B ws) (freshR (layC d) its ws c r) := by
  have hb := h.big
  unfold y0f freshR
  simp only [← eqR_def]
  cases eqR r 6 0 0 0 with
  | true => exact ⟨B, rfl, hp⟩
  | false =>
    simp only [cond_false]
    rw [rfits_eq hR h hp (by omega) hk hc, Option.bind_some]
    cases hf : fitB (layC d) its c r with
    | false => exact ⟨B, rfl, hp⟩
    | true =>
      obtain ⟨f1, f2, f3, f4, f5, f6, f7⟩ := fit_spec (hc.2 hk) hf
      simp only [Bool.not_true, cond_false]
      rw [rUser_eq hR, Option.bind_some, wrap_id (by omega) (by omega), newsL_eq (by rw [hp.length_eq]; exact hn) ⟨by omega, by omega⟩ ⟨by omega, by omega⟩ (by omega)]
      refine ⟨_, rfl, ?_⟩
      refine List.perm_append_comm.trans ?_
      exact (hp.cons _).trans (putL_perm _).symm
theorem ragainL_eq {w : List (List Int)} {C : y34} {c : yc} {to f : Int} (h : SOK (layC d) its) (hp : w.Perm its) (hn : its.length ≤ 1048576) {b : List Int} (hg : getK its C.A = some b) (h0 : 0 ≤ C.Asked ∧ 0 ≤ c.Size)
    (ht : 0 ≤ to ∧ to + min C.Asked c.Size ≤ (ws.length : Int)) (hf : 0 ≤ f ∧ f + min C.Asked c.Size ≤ (ws.length : Int)) (hl : (ws.length : Int) ≤ 100000) :
    ∃ B', y5k c ⟨d⟩ to f C w (0, ws) = some (true, B', copyW ws to.toNat f.toNat (min C.Asked c.Size).toNat) ∧ B'.Perm (delK its C.A) := by
  have key : ∀ ws' : List Int, ∃ B', (y0n C.A ⟨d⟩ w ws').bind (fun y0 => (y0g y0 ⟨d⟩ w ws').bind fun y1 => some (.inr (true, Prod.fst y1, Prod.snd y1) : (Int × List Int) ⊕ (Bool × List (List Int) × List Int))) = some (.inr (true, B', ws')) ∧ B'.Perm (delK its C.A) := by
    intro ws'
    obtain ⟨r, h1, h2⟩ := rat_rel (Lr := ⟨d⟩) (ws := ws') h hp hn C.A
    rcases h2 with ⟨_, h3, _⟩ | ⟨A, b', D, e, er, _, hd, _⟩
    · rw [h3] at hg; cases hg
    · refine ⟨A ++ D, ?_, hd⟩
      have hl : (A ++ b' :: D).length ≤ 1048576 := by rw [← e, hp.length_eq]; exact hn
      have hwo := rwithout_eq (Lr := ⟨d⟩) (ws := ws') A b' D hl
      rw [← e] at hwo
      rw [h1, Option.bind_some, er, hwo, Option.bind_some]
  obtain ⟨x, h1, h2⟩ := countS (step := fun s => y4j c ⟨d⟩ to f C w s.1 s.2) (fun i => ((i : Int), copyW ws to.toNat f.toNat i)) (min C.Asked c.Size).toNat (fun _ => True) (fun x => ∃ B', x = (true, B', copyW ws to.toNat f.toNat (min C.Asked c.Size).toNat) ∧ B'.Perm (delK its C.A))
    (fun i hi _ => by
      left
      refine ⟨?_, trivial⟩
      have hlt : decide ((i : Int) < C.Asked) = true := decide_eq_true (by omega)
      have hlt2 : decide ((i : Int) < c.Size) = true := decide_eq_true (by omega)
      have w1 : IntKind.wrap IntKind.i64 (f + (i : Int)) = f + (i : Int) := wrap_id (by omega) (by omega)
      have w2 : IntKind.wrap IntKind.i64 (to + (i : Int)) = to + (i : Int) := wrap_id (by omega) (by omega)
      have hin : inR (f + (i : Int)) (copyW ws to.toNat f.toNat i).length = true := by rw [copyW_len]; exact inR_int (by omega) (by omega)
      have hin2 : inR (to + (i : Int)) (copyW ws to.toNat f.toNat i).length = true := by rw [copyW_len]; exact inR_int (by omega) (by omega)
      simp only [y4j, hlt, hlt2, cond_true, w1, w2, offs0, hin, hin2]
      rw [wrap_succ (by omega), show (f + (i : Int)).toNat = f.toNat + i by omega, show (to + (i : Int)).toNat = to.toNat + i by omega]
      rfl)
    (fun _ => by
      obtain ⟨B', hB1, hB2⟩ := key (copyW ws to.toNat f.toNat (min C.Asked c.Size).toNat)
      refine ⟨_, ?_, B', rfl, hB2⟩
      simp only [y4j]
      by_cases ha : (((min C.Asked c.Size).toNat : Nat) : Int) < C.Asked
      · rw [decide_eq_true ha, cond_true, decide_eq_false (by omega), cond_false]; exact hB1
      · rw [decide_eq_false ha, cond_false]; exact hB1)
    trivial
  obtain ⟨B', h3, h4⟩ := h2
  refine ⟨B', ?_, h4⟩
  unfold y5k
  have h1 : loopO (fun s => y4j c ⟨d⟩ to f C w s.1 s.2) (0, ws) = some x := h1
  rw [h1, h3]
theorem ragain_eq (hR : RightC d) (h : SOK (layC d) its) (hp : B.Perm its) (hn : its.length + 1 ≤ 1048575) (hw : (ws.length : Int) = (layC d).at_11 - (layC d).at_10) {c : yc} {r : T_api_Reply} (hk : c.Kind = 4) (hc : askP c)
    {A D : List (List Int)} {b : List Int} (e : B = A ++ b :: D) (hg : getK its c.Addr = some b) (hu : ∀ x, kk x = c.Addr → (A ++ D ++ [x]).Perm (updK its x)) :
    RR (y32 c r (A.length : Int) ⟨d⟩ B ws) (againR (layC d) its ws c r) := by
  have hb := h.big
  have hsz : sized c := .inr (.inr (.inl hk))
  have hfit := hc.2 hsz
  have hBl : B.length ≤ 1048574 := by rw [hp.length_eq]; omega
  obtain ⟨hm, hkb⟩ := getK_mem hg
  have hBK := h.all b hm
  have hi : inR (A.length : Int) B.length = true := by rw [e]; exact mid_in A b D
  have hgd : B.getD A.length (List.replicate 3 0) = b := by rw [e]; exact mid_get A b D _
  have e0 : List.getD b 0 0 = kk b := rfl
  have e1 : List.getD b 1 0 = aa b := rfl
  have e2 : List.getD b 2 0 = ww b := rfl
  unfold y32 againR
  rw [hg]
  simp only [offs0, Int.toNat_natCast, hgd, e0, e1, e2, hi, cond_true, hkb, ← eqR_def]
  rw [rrnd_eq, Option.bind_some]
  cases hr : rndI c.Size 1 == ww b with
  | true =>
    simp only [cond_true]
    cases eqR r 0 c.Addr (ww b) 0 with
    | false => exact ⟨B, rfl, hp⟩
    | true =>
      simp only [Bool.not_true, cond_false]
      have hlen : (A ++ b :: D).length ≤ 1048576 := by rw [← e]; omega
      have hwo := rwithout_eq (Lr := ⟨d⟩) (ws := ws) A b D hlen
      rw [← e] at hwo
      have hl2 : (A ++ D).length + 1 = B.length := by rw [e]; simp; omega
      rw [hwo, Option.bind_some, decide_eq_true (by simp only; omega), cond_true]
      exact ⟨_, rfl, hu [c.Addr, c.Size, ww b] rfl⟩
  | false =>
    simp only [cond_false]
    obtain ⟨B1, hn1, hn2⟩ := rnews_eq (ws := ws) (r := r) hR h hp (by omega) hw hsz hc
    have hok := freshR_ok (ws := ws) (r := r) h hfit
    rw [hn1, Option.bind_some]
    cases hf : (freshR (layC d) its ws c r).1 with
    | false => exact ⟨B1, rfl, hn2⟩
    | true =>
      simp only [Bool.not_true, cond_false]
      by_cases he : r.Err = 0
      · rw [show (r.Err == 0) = true by simpa using he, cond_true, show (r.Err != 0) = false by simp [he], cond_false, rUser_eq hR, Option.bind_some, Option.bind_some]
        have hfb : fitB (layC d) its c r = true := by
          unfold freshR at hf
          have : eqR r 6 0 0 0 = false := by
            cases h6 : eqR r 6 0 0 0 with
            | false => rfl
            | true => have := (eqR_iff h6).1; omega
          rw [this, cond_false] at hf
          cases hfb : fitB (layC d) its c r with
          | true => rfl
          | false => rw [hfb] at hf; cases hf
        obtain ⟨f1, f2, f3, f4, f5, f6, f7⟩ := fit_spec hfit hfb
        have h1 := hBK.lo; have h2 := hBK.hi; have h3 := hBK.ask
        rw [wrap_id (x := r.Addr - _) (by omega) (by omega), wrap_id (x := c.Addr - _) (by omega) (by omega)]
        have hfr : (freshR (layC d) its ws c r).2.1 = putL its [r.Addr, c.Size, r.Size] := by
          have h6 : eqR r 6 0 0 0 = false := by
            cases h6 : eqR r 6 0 0 0 with
            | false => rfl
            | true => have := (eqR_iff h6).1; omega
          unfold freshR
          rw [h6, hfb]; rfl
        have hg' : getK (freshR (layC d) its ws c r).2.1 c.Addr = some b := by
          have hmm : b ∈ (freshR (layC d) its ws c r).2.1 := by
            rw [hfr]; exact (putL_perm _).mem_iff.2 (by simp [hm])
          rcases hok.1.look c.Addr with ⟨A', b', D', e', hb', _, hg', _, _⟩ | ⟨_, _, _, _, hno, _, _⟩
          · have hbb : b = b' := hok.1.uniq hmm (by rw [e']; simp) (by rw [hkb, hb'])
            rw [hg', hbb]
          · exact absurd hkb (hno b hmm)
        obtain ⟨B', g1, g2⟩ := ragainL_eq (d := d) (its := (freshR (layC d) its ws c r).2.1) (w := B1) (ws := (freshR (layC d) its ws c r).2.2) (C := ⟨c.Addr, aa b, ww b⟩) (c := c) (to := r.Addr - (layC d).at_10) (f := c.Addr - (layC d).at_10) hok.1 hn2 (by omega) hg'
          ⟨h3.1, f5.1⟩ ⟨by omega, by rw [hok.2.1]; show _ + min (aa b) c.Size ≤ _; omega⟩ ⟨by omega, by rw [hok.2.1]; show _ + min (aa b) c.Size ≤ _; omega⟩ (by rw [hok.2.1]; omega)
        exact ⟨B', g1, g2⟩
      · rw [show (r.Err == 0) = false by simpa using he, cond_false, show (r.Err != 0) = true by simpa using he, cond_true]
        exact ⟨B1, rfl, hn2⟩
theorem rtotal_eq (hn : B.length ≤ 1048575) : y2y ⟨d⟩ B ws = some ((B.length : Int), sumw aa B, sumw ww B) := by
  obtain ⟨r, h1, h2⟩ := scanS (step := fun s => y4f B s.1 s.2.1 s.2.2) (l := B) (fun A => (sumw aa A, sumw ww A, (A.length : Int))) (fun _ => True) (fun r => r = ((B.length : Int), sumw aa B, sumw ww B))
    (fun A b C e _ => by
      left
      refine ⟨?_, trivial⟩
      have hlt : decide ((A.length : Int) < (B.length : Int)) = true := by rw [e]; exact mid_lt A b C
      have hl : A.length < B.length := by rw [e]; simp
      have hi : inR (A.length : Int) B.length = true := by rw [e]; exact mid_in A b C
      have hg : B.getD A.length (List.replicate 3 0) = b := by rw [e]; exact mid_get A b C _
      simp only [y4f, hlt, cond_true, offs0, hi, Int.toNat_natCast, hg]
      rw [wrap_succ (by omega), sumw_snoc, sumw_snoc]
      simp [aa, ww])
    (fun _ => ⟨_, by
      simp only [y4f]
      rw [decide_eq_false (by omega), cond_false], rfl⟩)
    trivial
  unfold y2y y7q
  have h1 : loopO (fun s => y4f B s.1 s.2.1 s.2.2) (0, 0, 0) = some r := h1
  rw [h1, h2]
theorem rStep_eq (hR : RightC d) (h : SOK (layC d) its) (hp : B.Perm its) (hn : its.length + 1 ≤ 1048575) (hw : (ws.length : Int) = (layC d).at_11 - (layC d).at_10) {c : yc} {r : T_api_Reply} (hb : CRB c r) :
    RR (y0h c r ⟨d⟩ B ws) (stepR (layC d) its ws c r) := by
  have hbig := h.big
  have hBl : B.length ≤ 1048574 := by rw [hp.length_eq]; omega
  unfold y0h stepR
  simp only [← eqR_def, ← eqS_def]
  cases eqR r 8 0 0 0 with
  | true => exact ⟨B, rfl, hp⟩
  | false =>
    simp only [cond_false]
    rw [rAsks_eq _ hb.size, Option.bind_some, Option.bind_some]
    by_cases hq : askP c
    · have ha : askI c = 0 := by unfold askI; rw [if_pos hq]
      simp only [ha, bne_self_eq_false, cond_false]
      obtain ⟨i, hi1, hi2⟩ := rat_rel (Lr := ⟨d⟩) (ws := ws) h hp (by omega) c.Addr
      rw [hi1, Option.bind_some]
      have e : ∀ k : Int, c.Kind ≠ k → (c.Kind == k) = false := fun k hk => by simpa using hk
      have e' : ∀ k : Int, c.Kind = k → (c.Kind == k) = true := fun k hk => by simpa using hk
      have news : sized c → RR ((y0f c r ⟨d⟩ B ws).bind fun y => some (Prod.fst y, Prod.fst (Prod.snd y), Prod.snd (Prod.snd y))) (freshR (layC d) its ws c r) := fun hs => by
        obtain ⟨B1, h1, h2⟩ := rnews_eq (ws := ws) (r := r) hR h hp (by omega) hw hs hq
        rw [h1, Option.bind_some]; exact ⟨B1, rfl, h2⟩
      by_cases h1 : c.Kind = 1 ∨ c.Kind = 3 ∨ c.Kind = 5
      · rw [if_pos h1]
        have n1 := news (by unfold sized; omega)
        rcases h1 with h1 | h1 | h1
        · rw [e' 1 h1, cond_true]; exact n1
        · rw [e 1 (by omega), e' 3 h1, cond_false, cond_true]; exact n1
        · rw [e 1 (by omega), e 3 (by omega), e' 5 h1, cond_false, cond_false, cond_true]; exact n1
      rw [if_neg h1, e 1 (by omega), e 3 (by omega), e 5 (by omega)]
      simp only [cond_false]
      by_cases h4 : c.Kind = 4
      · rw [if_pos h4, e' 4 h4, cond_true]
        by_cases hz : c.Addr = 0
        · rw [if_pos hz, show (c.Addr == 0) = true by simpa using hz, cond_true]; exact news (by unfold sized; omega)
        · rw [if_neg hz, show (c.Addr == 0) = false by simpa using hz, cond_false]
          rcases hi2 with ⟨er, hg, _⟩ | ⟨A, b, D, eB, er, hg, hd, hu⟩
          · rw [er, decide_eq_true (by omega), cond_true]
            unfold againR; rw [hg]; exact ⟨B, rfl, hp⟩
          · rw [er, decide_eq_false (by omega), cond_false]
            obtain ⟨B1, g1, g2⟩ := ragain_eq (r := r) hR h hp hn hw h4 hq eB hg hu
            rw [g1, Option.bind_some]; exact ⟨B1, rfl, g2⟩
      rw [if_neg h4, e 4 h4, cond_false]
      by_cases h2 : c.Kind = 2
      · rw [if_pos h2, e' 2 h2, cond_true]
        unfold freeR
        rcases hi2 with ⟨er, hg, hd⟩ | ⟨A, b, D, eB, er, hg, hd, hu⟩
        · rw [er, hg]
          by_cases hz : c.Addr = 0
          · rw [show (c.Addr != 0) = false by simp [hz]]
            simp only [cond_false, Option.isNone_none, Bool.true_and]
            cases eqR r 0 0 0 0 with
            | false => exact ⟨B, rfl, hp⟩
            | true => exact ⟨B, rfl, hd⟩
          · rw [show (c.Addr != 0) = true by simpa using hz]
            exact ⟨B, rfl, hp⟩
        · have hlen : (A ++ b :: D).length ≤ 1048576 := by rw [← eB]; omega
          have hwo := rwithout_eq (Lr := ⟨d⟩) (ws := ws) A b D hlen
          rw [← eB] at hwo
          rw [er, hg, hwo, Option.bind_some, decide_eq_false (show ¬ ((A.length : Int) < 0) by omega), decide_eq_true (show (A.length : Int) ≥ 0 by omega)]
          simp only [cond_false, cond_true, Option.isNone_some, Bool.false_and]
          cases eqR r 0 0 0 0 with
          | false => cases c.Addr != 0 <;> exact ⟨B, rfl, hp⟩
          | true => cases c.Addr != 0 <;> exact ⟨A ++ D, rfl, hd⟩
      rw [if_neg h2, e 2 h2, cond_false]
      by_cases h6 : c.Kind = 6
      · rw [if_pos h6, e' 6 h6, cond_true]
        unfold usableR
        rcases hi2 with ⟨er, hg, hd⟩ | ⟨A, b, D, eB, er, hg, hd, hu⟩
        · rw [er, hg]; exact ⟨B, rfl, hp⟩
        · have hi : inR (A.length : Int) B.length = true := by rw [eB]; exact mid_in A b D
          have hgd : B.getD A.length (List.replicate 3 0) = b := by rw [eB]; exact mid_get A b D _
          rw [er, hg, decide_eq_false (show ¬ ((A.length : Int) < 0) by omega), cond_false, offs0, hi, cond_true, cond_true, Int.toNat_natCast, hgd]
          exact ⟨B, rfl, hp⟩
      rw [if_neg h6, e 6 h6, cond_false]
      by_cases h7 : c.Kind = 7 ∨ c.Kind = 9
      · rw [if_pos h7]
        rcases h7 with h7 | h7
        · rw [e' 7 h7]; exact ⟨B, rfl, hp⟩
        · rw [e 7 (by omega), e' 9 h7]; exact ⟨B, rfl, hp⟩
      rw [if_neg h7, e 7 (by omega), e 9 (by omega)]
      simp only [cond_false]
      by_cases h8 : c.Kind = 8
      · rw [if_pos h8, e' 8 h8, cond_true]
        cases eqR r 0 0 r.Size 0 with
        | false => exact ⟨B, rfl, hp⟩
        | true =>
          by_cases hs : 0 ≤ r.Size
          · rw [decide_eq_true (show r.Size ≥ 0 from hs)]; exact ⟨B, rfl, hp⟩
          · rw [decide_eq_false (show ¬ r.Size ≥ 0 from hs)]; exact ⟨B, rfl, hp⟩
      rw [if_neg h8, e 8 h8, cond_false]
      by_cases h10 : c.Kind = 10
      · rw [if_pos h10, e' 10 h10, cond_true, rtotal_eq (by omega), Option.bind_some]
        unfold statsR
        rw [show (layC d).c = d from rfl, ← sumw_perm aa hp, ← sumw_perm ww hp, ← hp.length_eq, (right_c hb.stats).2, Option.bind_some]
        cases eqS r with
        | false => exact ⟨B, rfl, hp⟩
        | true =>
          simp only [cond_true, Bool.true_and]
          cases decide (r.Stats.Mapped ≤ d.Pages) with
          | false => cases rightB r.Stats <;> exact ⟨B, rfl, hp⟩
          | true =>
            cases rightB r.Stats with
            | false => exact ⟨B, rfl, hp⟩
            | true =>
              simp only [cond_true, Bool.true_and]
              cases r.Stats.Blocks == (B.length : Int) with
              | false => exact ⟨B, rfl, hp⟩
              | true => cases r.Stats.Asked == sumw aa B <;> exact ⟨B, rfl, hp⟩
      rw [if_neg h10, e 10 h10, cond_false]
      unfold accessR
      obtain ⟨y, hy, _, hy2⟩ := rof_spec (Lr := ⟨d⟩) (ws := ws) B (by omega) (rB_bound h hp) c.Addr
      rw [hy, Option.bind_some, hy2, any_perm hp]
      cases hx : its.any (fun x => decide (hasW x c.Addr)) with
      | false => exact ⟨B, rfl, hp⟩
      | true =>
        obtain ⟨x, hm, hh⟩ := List.any_eq_true.1 hx
        have hh : hasW x c.Addr := by simpa using hh
        have hB := h.all x hm
        have g1 := hB.lo; have g2 := hB.hi
        unfold hasW at hh
        simp only [Bool.not_true, cond_false]
        rw [rUser_eq hR, Option.bind_some, wrap_id (by omega) (by omega), offs0, inR_int (by omega) (by omega)]
        simp only [cond_true]
        cases c.Kind == 11 with
        | true =>
          simp only [cond_true]
          refine ⟨B, ?_, hp⟩
          unfold wordA
          rw [if_pos (by omega)]
        | false =>
          cases eqR r 0 0 0 0 with
          | false => exact ⟨B, rfl, hp⟩
          | true => exact ⟨B, rfl, hp⟩
    · have ha : askI c = 2 := by unfold askI; rw [if_neg hq]
      rw [ha]; exact ⟨B, rfl, hp⟩
end
end Go.Rx
end

noncomputable section
namespace Go.Rx
open Go.Proofs
set_option maxRecDepth 100000
set_option maxHeartbeats 4000000
attribute [local irreducible] Loop ex exF contK roundK retK at_ bodyOf mkEnv
end Go.Rx
end

section
namespace Go.Rx
open Go.Proofs
theorem Small20 (c : yb) : ∃ d, y2u c = some d ∧ RightC d := by
  obtain ⟨d, h1, h2⟩ := Some_eq c
  unfold y2u
  rw [h1, Option.bind_some]
  refine ⟨_, rfl, ?_⟩
  obtain ⟨a, b, d', e, f, g, h', i, j, k, l⟩ := h2
  have md : ∀ x m : Int, 0 ≤ x → 0 < m → m ≤ 10 → Int.tmod x m = x % m ∧ 0 ≤ x % m ∧ x % m < m := fun x m h1 h2 h3 => ⟨Int.tmod_eq_emod_of_nonneg h1, Int.emod_nonneg _ (by omega), Int.emod_lt_of_pos _ h2⟩
  have m1 := md d.Workers 4 (by omega) (by omega) (by omega)
  have m2 := md d.CPUs 2 (by omega) (by omega) (by omega)
  have m3 := md d.Pages 9 (by omega) (by omega) (by omega)
  have m4 := md d.Stripes 4 (by omega) (by omega) (by omega)
  have m5 := md d.Private 3 (by omega) (by omega) (by omega)
  have m6 := md d.Cache 3 (by omega) (by omega) (by omega)
  have m7 := md d.Bin 4 (by omega) (by omega) (by omega)
  have m8 := md d.Batch 3 (by omega) (by omega) (by omega)
  simp only [m1.1, m2.1, m3.1, m4.1, m5.1, m6.1, m7.1, m8.1]
  simp (disch := omega) only [wrap_id]
  exact ⟨by simp only; omega, by simp only; omega, by simp only; omega, by simp only; omega, f, g, h', by simp only; omega, by simp only; omega, by simp only; omega, by simp only; omega⟩
theorem New_eq (c : yb) : y3y c = some (if RightC c then (true, 0, layC c, List.replicate (c.Pages * 32).toNat 0, []) else (false, 2, ⟨⟨0,0,0,0,0,0,0,0,0,0,0⟩,0,0,0,0,0,0,0,0,0,0,0,0⟩, [], [])) := by
  unfold y3y
  rw [Of_eq, Option.bind_some]
  by_cases h : RightC c
  · have hb := (layC_ok h).big; have h11 := (layC_ok h).a11; have hp := (layC_ok h).pages
    have e : (layC c).c = c := rfl
    rw [e] at h11 hp
    rw [if_pos h, if_pos h]
    simp only [bne_self_eq_false, cond_false]
    rw [Words_eq, Option.bind_some, User_eq, Option.bind_some, wrap_id (by omega) (by omega), show (layC c).at_11 - (layC c).at_10 = c.Pages * 32 by omega, decide_eq_true (by omega)]; rfl
  · rw [if_neg h, if_neg h]; rfl
theorem nil_SOK {c : yb} (h : RightC c) : SOK (layC c) [] := ⟨layC_ok h, by simp, List.Pairwise.nil⟩
theorem rep_len {c : yb} (h : RightC c) : ((List.replicate (c.Pages * 32).toNat (0 : Int)).length : Int) = (layC c).at_11 - (layC c).at_10 := by
  have h11 := (layC_ok h).a11; have hp := (layC_ok h).pages
  have e : (layC c).c = c := rfl
  rw [e] at h11 hp
  rw [List.length_replicate]; omega
end Go.Rx
end

section
namespace Go.Rx
open Go.Proofs
section
variable {d : yb} {its B : List (List Int)} {ws : List Int}
end
def I64 (x : Int) : Prop := -9223372036854775808 ≤ x ∧ x ≤ 9223372036854775807
theorem etaL (L : ye) : ye.mk (yb.mk L.c.Workers L.c.CPUs L.c.Pages L.c.Stripes L.c.Tries L.c.Wait L.c.Clock L.c.Private L.c.Cache L.c.Bin L.c.Batch) L.at_0 L.at_1 L.at_2 L.at_3 L.at_4 L.at_5 L.at_6 L.at_7 L.at_8 L.at_9 L.at_10 L.at_11 = L := rfl
theorem etaC (c : yb) : yb.mk c.Workers c.CPUs c.Pages c.Stripes c.Tries c.Wait c.Clock c.Private c.Cache c.Bin c.Batch = c := rfl
theorem rNew_eq {d : yb} (h : RightC d) : y0l d = some (⟨d⟩, [], List.replicate (d.Pages * 32).toNat 0) := by
  have hp := h.pages
  unfold y0l
  rw [wrap_id (by omega) (by omega), decide_eq_true (by omega), Int.mul_comm]; rfl
end Go.Rx
end

section
namespace Go.Rx
open Go.ChangeShapes Go.WideShapes
theorem elOK_ints {P : Program} {elT : ET} {fs : Array Field} {m : Nat} (ht : P.underlying (elT (m + 4)) = some (.struct fs)) (hc : P.cellsOf (elT (m + 4)) = m % 32 + 1)
    (hf : flatK P 6 (elT (m + 4)) = some (List.replicate (m % 32 + 1) true)) : ElOK P elT (m + 4) := by
  refine ⟨hc, fun enc W base sp held fuel cs x h => ?_, fun W r b v e hv hcs ρ => struct_value ht hv hcs ρ⟩
  obtain ⟨hlen, hg⟩ := flatK_good 6 (elT (m + 4)) _ fuel cs x hf h
  rw [List.length_replicate] at hlen
  have hI : ∀ i, i < m % 32 + 1 → ∃ n, cs[i]? = some (.int .i64 n) ∧ (Lit.int .i64 n).wf = true := fun i hi => hg i true (by rw [List.getElem?_replicate, if_pos hi])
  obtain ⟨N, hN⟩ := Deep.choose_lt hI
  have hget : ∀ i, i < m % 32 + 1 → ((List.range (m % 32 + 1)).map N).getD i 0 = N i := fun i hi => by simp [List.getD, hi]
  have hcs : cs = elEnc (m + 4) ((List.range (m % 32 + 1)).map N : List Int) := by
    show cs = (List.range (m % 32 + 1)).map fun i => i64 (((List.range (m % 32 + 1)).map N).getD i 0)
    apply List.ext_getElem?
    intro i
    rcases Nat.lt_or_ge i (m % 32 + 1) with hi | hi
    · rw [(hN i hi).1, List.getElem?_map, List.getElem?_range hi, Option.map_some, hget i hi]
    · rw [List.getElem?_eq_none (by omega), List.getElem?_eq_none (by simpa using hi)]
  refine ⟨_, hcs, fun k n hm => ?_⟩
  have hm' : Value.int k n ∈ cs := by rw [hcs]; exact hm
  obtain ⟨i, hi⟩ := List.getElem?_of_mem hm'
  have hil : i < m % 32 + 1 := by rw [← hlen]; exact (List.getElem?_eq_some_iff.1 hi).1
  obtain ⟨h1, h2⟩ := hN i hil
  rw [h1] at hi
  injection hi with hi
  injection hi with e1 e2
  subst e1; subst e2
  exact h2
end Go.Rx
end

section
namespace Go.Rx
open Go.Proofs
noncomputable def y0t (c : yb) : Option (Bool × ye × (List Int) × (List (List Int))) := (y3y c).bind fun x => bif x.1 then (bif x.2.1 == 0 then some (true, x.2.2) else none) else (bif x.2.1 == 2 then some (false, x.2.2) else none)
abbrev Y9 := yb → Option (Bool × ye × (List Int) × (List (List Int)))
def y97 (m_ : Y9) (args : List V) (H : Heap) (K : V → Heap → Prop) : Prop :=
  aC args fun a0 r => aN r <| aAgg a0 fun c0 => y26 c0 fun c => aN H <| So (m_ c) fun x => br (x.1) (K (.tup [.ptr 0 0, vi 0]) [.cells 0 (yk (x.2.1) ++ [.ptr 1 0, .row 2]), .cells 0 [.row 3], .row 0 (x.2.2.1) false, .row 70 (x.2.2.2) false]) (K (.tup [.ext (.pointer none), vi 2]) [])
def y82 (m_ : Y9) : Spec := ⟨y97 m_, (true : Bool)⟩
theorem y9v : SpecOK Try.prog elTT 10 (y82 y0t) := spec_mono (fun args H K h => by
  change y97 y0t args H K at h
  unfold y97 at h
  repeat first | (obtain ⟨_, h⟩ := h) | replace h := Des.el h
  subst_vars
  rename_i c
  show So (y3y c) _
  unfold y0t at h
  revert h
  cases y3y c with
  | none => exact fun h => h
  | some x =>
    obtain ⟨a, e, y⟩ := x
    cases a with
    | true =>
      intro h
      have h : So (bif e == 0 then some (true, y) else none) _ := h
      cases he : e == 0 with
      | true =>
        rw [he] at h
        have he : e = 0 := by simpa using he
        subst he
        exact h
      | false => rw [he] at h; exact h.elim
    | false =>
      intro h
      have h : So (bif e == 2 then some (false, y) else none) _ := h
      cases he : e == 2 with
      | true =>
        rw [he] at h
        have he : e = 2 := by simpa using he
        subst he
        exact h
      | false => rw [he] at h; exact h.elim) yj9
end Go.Rx
end

section
namespace Go.Rx
open Go.Proofs
set_option maxRecDepth 100000
set_option maxHeartbeats 4000000
abbrev Y24 := Int → (List Int) → Option (Bool)
def y8g (m_ : Y24) (args : List V) (H : Heap) (K : V → Heap → Prop) : Prop :=
  aC args fun a0 r => aC r fun a1 r => aN r <| aInt a0 fun many => aRow 0 a1 <| aC H fun b0 r => aN r <| bRow 0 true b0 fun (places : List Int) => So (m_ many places) fun x => K (vb (x)) [.row 0 places true]
def yba (m_ : Y24) : Spec := ⟨y8g m_, (true : Bool)⟩
abbrev Y3 := yb → (List Ev) → (List Int) → Option (Int × Bool × Int × ye × (List Int) × (List (List Int)))
def y7l (m_ : Y3) (args : List V) (H : Heap) (K : V → Heap → Prop) : Prop :=
  aC args fun a0 r => aC r fun a1 r => aC r fun a2 r => aN r <| aAgg a0 fun c0 => y26 c0 fun c => aRow 0 a1 <| aRow 1 a2 <| aC H fun b0 r => aC r fun b1 r => aN r <| bRow 3 true b0 fun (l2 : List Ev) => bRow 0 true b1 fun (places : List Int) => So (m_ c l2 places) fun x => br (x.2.1) (K (.tup [vi (x.1), .ptr 2 0, vi (x.2.2.1)]) [.row 3 l2 true, .row 0 places true, .cells 0 (yk (x.2.2.2.1) ++ [.ptr 3 0, .row 4]), .cells 0 [.row 5], .row 0 (x.2.2.2.2.1) false, .row 70 (x.2.2.2.2.2) false]) (K (.tup [vi (x.1), .ext (.pointer none), vi (x.2.2.1)]) [.row 3 l2 true, .row 0 places true])
def y7a (m_ : Y3) : Spec := ⟨y7l m_, (true : Bool)⟩
abbrev Y11 := yb → (List Ev) → Option (Int)
def y8k (m_ : Y11) (args : List V) (H : Heap) (K : V → Heap → Prop) : Prop :=
  aC args fun a0 r => aC r fun a1 r => aN r <| aAgg a0 fun c0 => y26 c0 fun c => aRow 0 a1 <| aC H fun b0 r => aN r <| bRow 3 true b0 fun (l2 : List Ev) => So (m_ c l2) fun x => K (vi (x)) [.row 3 l2 true]
def ydo (m_ : Y11) : Spec := ⟨y8k m_, (true : Bool)⟩
noncomputable def y3j  : Cfg := { cfgB with
  sigs := sigN,
  keep := fun r => match r with | 2 => some [(0, none), (7, some 0), (8, none), (9, none)] | _ => none }
def wk_linear_Run : List WK := [⟨true, 1, [], 0, 0, true⟩, ⟨true, 1, [], 24, 0, false⟩, ⟨true, 1, [23], 0, 0, true⟩, ⟨true, 1, [23], 0, 70, false⟩]
noncomputable def y3a (y0t : Y9) (y1l : Y24) (y1p : Y23) (y1c : yc → T_api_Reply → ye → (List Int) → (List (List Int)) → Option (Bool × (List (List Int)) × (List Int))) : Cfg := { cfgB with
  sigs := (sigC 10 (y82 y0t) (sigC 59 (yba y1l) (sigC 15 (altNil (y9w y1c) (ycv y1p)) sigN))),
  keep := fun r => match r with | 5 => some [(1, some 3), (2, some 0), (9, none), (27, some 0), (28, none), (29, none)] | _ => none,
  plan := fun r => match r with | 7 => some (List.range 13, 2) | _ => none }
noncomputable def ydg (y0t : Y9) (y23 : Y16) (y2p : Y17) (y31 : Y15) (y1b : Y3) : Cfg := { cfgB with
  sigs := (sigC 10 (y82 y0t) (sigC 60 (ybi y23) (sigC 61 (y9x y2p) (sigC 62 (ye1 y31) (sigC 28 (y7a y1b) sigN))))) }
theorem yiz (many : Int) (places : List Int) (t8 : Int) (t9 : Int) (K : V → Heap → Prop) (J1 : Env → Heap → Prop) : (ex y3j (⟨21, 1⟩ : Cx) (at_ (bodyOf Try.f59) [1, 0, 1, 0, 0]) (mkEnv [(0, vi (many)), (7, .row 0), (8, vi (t8)), (9, vi (t9))]) [.row 0 (places : List (Int)) Bool.true] (roundK y3j (⟨21, 1⟩ : Cx) (at_ (bodyOf Try.f59) [1, 0, 1, 0, 0]) (contK y3j (⟨21, 1⟩ : Cx) (bodyOf Try.f59) [1, 0, 1, 0] (retK y3j Try.f59 1 K)) J1)) = (
    br (Decidable.decide (t9 < t8)) (Req (inR t9 (List.length places)) (Req (inR (offs t9 0) (List.length places)) (br (Decidable.decide (List.getD places (Int.toNat (offs t9 0)) 0 < 0)) (K (vb (Bool.false)) [.row 0 (places : List (Int)) Bool.true]) (br (Decidable.decide (List.getD places (Int.toNat (offs t9 0)) 0 ≥ many)) (K (vb (Bool.false)) [.row 0 (places : List (Int)) Bool.true]) (J1 (mkEnv [(0, vi (many)), (7, .row 0), (8, vi (t8)), (9, vi (IntKind.wrap IntKind.i64 (t9 + 1)))]) [.row 0 (places : List (Int)) Bool.true]))))) (K (vb (Bool.true)) [.row 0 (places : List (Int)) Bool.true])) := by
  kernel_rfl
theorem yfr (many : Int) (places : List Int) (K : V → Heap → Prop) : (exF y3j Try.f59 [vi many, .row 0] [.row 0 places true] K) = (
    Loop y3j (⟨21, 1⟩ : Cx) (at_ (bodyOf Try.f59) [1, 0, 1, 0, 0]) (mkEnv [(0, vi (many)), (7, .row 0), (8, vi ((↑(List.length places) : Int))), (9, vi (0))]) [.row 0 (places : List (Int)) Bool.true] (contK y3j (⟨21, 1⟩ : Cx) (bodyOf Try.f59) [1, 0, 1, 0] (retK y3j Try.f59 1 K))) := by
  kernel_rfl
theorem yhg (y0t : Y9) (y1l : Y24) (y1p : Y23) (y1c : yc → T_api_Reply → ye → (List Int) → (List (List Int)) → Option (Bool × (List (List Int)) × (List Int))) (c : yb) (l2 : List Ev) (places : List Int) (t28 : Int) (t29 : Int) (c2 : Int) (c3 : Int) (c4 : Int) (c5 : Int) (c6 : Int) (c7 : Int) (c8 : Int) (c9 : Int) (c10 : Int) (c11 : Int) (c12 : Int) (c13 : Int) (c14 : Int) (c15 : Int) (c16 : Int) (c17 : Int) (c18 : Int) (c19 : Int) (c20 : Int) (c21 : Int) (c22 : Int) (c23 : Int) (c24 : Int) (w : List Int) (w2 : List (List Int)) (K : V → Heap → Prop) (J1 : Env → Heap → Prop) : (ex (y3a y0t y1l y1p y1c) (⟨53, 2⟩ : Cx) (at_ (bodyOf Try.f28) [1, 1, 1, 0, 1, 0, 0]) (mkEnv [(1, .row 0), (2, .row 1), (9, .ptr 2 0), (27, .row 1), (28, vi (t28)), (29, vi (t29))]) [.row 3 (l2 : List (Go.Rx.Ev)) Bool.true, .row 0 (places : List (Int)) Bool.true, .cells 0 [vi (c2), vi (c3), vi (c4), vi (c5), vi (c6), vi (c7), vi (c8), vi (c9), vi (c10), vi (c11), vi (c12), vi (c13), vi (c14), vi (c15), vi (c16), vi (c17), vi (c18), vi (c19), vi (c20), vi (c21), vi (c22), vi (c23), vi (c24), .ptr 3 0, .row 4], .cells 0 [.row 5], .row 0 (w : List (Int)) Bool.false, .row 70 (w2 : List (List Int)) Bool.false] (roundK (y3a y0t y1l y1p y1c) (⟨53, 2⟩ : Cx) (at_ (bodyOf Try.f28) [1, 1, 1, 0, 1, 0, 0]) (contK (y3a y0t y1l y1p y1c) (⟨53, 2⟩ : Cx) (bodyOf Try.f28) [1, 1, 1, 0, 1, 0] (retW (y3a y0t y1l y1p y1c) wk_linear_Run Try.f28 2 K)) J1)) = (
    br (Decidable.decide (t29 < t28)) (Req (inR t29 (List.length places)) (Req (inR (offs t29 0) (List.length places)) (Req (inR (List.getD places (Int.toNat (offs t29 0)) 0) (List.length l2)) (Req (inR (offs (List.getD places (Int.toNat (offs t29 0)) 0) 0) (List.length l2)) (Req (inR (List.getD places (Int.toNat (offs t29 0)) 0) (List.length l2)) (Req (inR (offs (List.getD places (Int.toNat (offs t29 0)) 0) 0) (List.length l2)) (So (y1c (yc.mk (Ev.CKind (List.getD l2 (Int.toNat (offs (List.getD places (Int.toNat (offs t29 0)) 0) 0)) dEv)) (Ev.CAddr (List.getD l2 (Int.toNat (offs (List.getD places (Int.toNat (offs t29 0)) 0) 0)) dEv)) (Ev.CSize (List.getD l2 (Int.toNat (offs (List.getD places (Int.toNat (offs t29 0)) 0) 0)) dEv)) (Ev.CAlign (List.getD l2 (Int.toNat (offs (List.getD places (Int.toNat (offs t29 0)) 0) 0)) dEv)) (Ev.CValue (List.getD l2 (Int.toNat (offs (List.getD places (Int.toNat (offs t29 0)) 0) 0)) dEv))) (T_api_Reply.mk (Ev.RErr (List.getD l2 (Int.toNat (offs (List.getD places (Int.toNat (offs t29 0)) 0) 0)) dEv)) (Ev.RAddr (List.getD l2 (Int.toNat (offs (List.getD places (Int.toNat (offs t29 0)) 0) 0)) dEv)) (Ev.RSize (List.getD l2 (Int.toNat (offs (List.getD places (Int.toNat (offs t29 0)) 0) 0)) dEv)) (Ev.RValue (List.getD l2 (Int.toNat (offs (List.getD places (Int.toNat (offs t29 0)) 0) 0)) dEv)) (ya.mk (Ev.SBlocks (List.getD l2 (Int.toNat (offs (List.getD places (Int.toNat (offs t29 0)) 0) 0)) dEv)) (Ev.SAsked (List.getD l2 (Int.toNat (offs (List.getD places (Int.toNat (offs t29 0)) 0) 0)) dEv)) (Ev.SWords (List.getD l2 (Int.toNat (offs (List.getD places (Int.toNat (offs t29 0)) 0) 0)) dEv)) (Ev.SKept (List.getD l2 (Int.toNat (offs (List.getD places (Int.toNat (offs t29 0)) 0) 0)) dEv)) (Ev.SOpen (List.getD l2 (Int.toNat (offs (List.getD places (Int.toNat (offs t29 0)) 0) 0)) dEv)) (Ev.SMapped (List.getD l2 (Int.toNat (offs (List.getD places (Int.toNat (offs t29 0)) 0) 0)) dEv)) (Ev.SUsed (List.getD l2 (Int.toNat (offs (List.getD places (Int.toNat (offs t29 0)) 0) 0)) dEv)))) (ye.mk (yb.mk c2 c3 c4 c5 c6 c7 c8 c9 c10 c11 c12) c13 c14 c15 c16 c17 c18 c19 c20 c21 c22 c23 c24) w w2) (fun (y0 : Bool × List (List Int) × List Int) => (br (!Prod.fst y0) (K (.tup [vi (t29), .ptr 2 0, vi (18)]) [.row 3 (l2 : List (Ev)) Bool.true, .row 0 (places : List (Int)) Bool.true, .cells 0 [vi (c2), vi (c3), vi (c4), vi (c5), vi (c6), vi (c7), vi (c8), vi (c9), vi (c10), vi (c11), vi (c12), vi (c13), vi (c14), vi (c15), vi (c16), vi (c17), vi (c18), vi (c19), vi (c20), vi (c21), vi (c22), vi (c23), vi (c24), .ptr 3 0, .row 4], .cells 0 [.row 5], .row 0 (Prod.snd (Prod.snd y0) : List (Int)) Bool.false, .row 70 (Prod.fst (Prod.snd y0) : List (List Int)) Bool.false]) (J1 (mkEnv [(1, .row 0), (2, .row 1), (9, .ptr 2 0), (27, .row 1), (28, vi (t28)), (29, vi (IntKind.wrap IntKind.i64 (t29 + 1)))]) [.row 3 (l2 : List (Ev)) Bool.true, .row 0 (places : List (Int)) Bool.true, .cells 0 [vi (c2), vi (c3), vi (c4), vi (c5), vi (c6), vi (c7), vi (c8), vi (c9), vi (c10), vi (c11), vi (c12), vi (c13), vi (c14), vi (c15), vi (c16), vi (c17), vi (c18), vi (c19), vi (c20), vi (c21), vi (c22), vi (c23), vi (c24), .ptr 3 0, .row 4], .cells 0 [.row 5], .row 0 (Prod.snd (Prod.snd y0) : List (Int)) Bool.false, .row 70 (Prod.fst (Prod.snd y0) : List (List Int)) Bool.false])))))))))) (K (.tup [vi ((↑(List.length places) : Int)), .ptr 2 0, vi (0)]) [.row 3 (l2 : List (Ev)) Bool.true, .row 0 (places : List (Int)) Bool.true, .cells 0 [vi (c2), vi (c3), vi (c4), vi (c5), vi (c6), vi (c7), vi (c8), vi (c9), vi (c10), vi (c11), vi (c12), vi (c13), vi (c14), vi (c15), vi (c16), vi (c17), vi (c18), vi (c19), vi (c20), vi (c21), vi (c22), vi (c23), vi (c24), .ptr 3 0, .row 4], .cells 0 [.row 5], .row 0 (w : List (Int)) Bool.false, .row 70 (w2 : List (List Int)) Bool.false])) := by
  kernel_rfl
theorem yie (y0t : Y9) (y1l : Y24) (y1p : Y23) (y1c : yc → T_api_Reply → ye → (List Int) → (List (List Int)) → Option (Bool × (List (List Int)) × (List Int))) (c : yb) (l2 : List Ev) (places : List Int) (K : V → Heap → Prop) : (exFW (y3a y0t y1l y1p y1c) [] wk_linear_Run Try.f28 [.agg (yl c), .row 0, .row 1] [.row 3 l2 true, .row 0 places true] K) = (
    So (y0t c) (fun (y0 : Bool × ye × List Int × List (List Int)) => (br (Prod.fst y0) (So (y1l (↑(List.length l2) : Int) places) (fun (y1 : Bool) => (br (!y1) (K (.tup [vi (0), .ext (Go.Value.pointer Option.none), vi (2)]) [.row 3 (l2 : List (Ev)) Bool.true, .row 0 (places : List (Int)) Bool.true]) (Loop (y3a y0t y1l y1p y1c) (⟨53, 2⟩ : Cx) (at_ (bodyOf Try.f28) [1, 1, 1, 0, 1, 0, 0]) (mkEnv [(1, .row 0), (2, .row 1), (9, .ptr 2 0), (27, .row 1), (28, vi ((↑(List.length places) : Int))), (29, vi (0))]) [.row 3 (l2 : List (Ev)) Bool.true, .row 0 (places : List (Int)) Bool.true, .cells 0 (yk (Prod.fst (Prod.snd y0)) ++ [.ptr 3 0, .row 4]), .cells 0 [.row 5], .row 0 (Prod.fst (Prod.snd (Prod.snd y0)) : List (Int)) Bool.false, .row 70 (Prod.snd (Prod.snd (Prod.snd y0)) : List (List Int)) Bool.false] (contK (y3a y0t y1l y1p y1c) (⟨53, 2⟩ : Cx) (bodyOf Try.f28) [1, 1, 1, 0, 1, 0] (retW (y3a y0t y1l y1p y1c) wk_linear_Run Try.f28 2 K)))))) (K (.tup [vi (0), .ext (Go.Value.pointer Option.none), vi (2)]) [.row 3 (l2 : List (Ev)) Bool.true, .row 0 (places : List (Int)) Bool.true])))) := by
  kernel_rfl
theorem yhc (y0t : Y9) (y23 : Y16) (y2p : Y17) (y31 : Y15) (y1b : Y3) (c : yb) (l2 : List Ev) (K : V → Heap → Prop) : (exF (ydg y0t y23 y2p y31 y1b) Try.f29 [.agg (yl c), .row 0] [.row 3 l2 true] K) = (
    So (y0t c) (fun (y0 : Bool × ye × List Int × List (List Int)) => (br (Prod.fst y0) (So (y23 (yb.Workers c) l2) (fun (y1 : Bool) => (br (!y1) (K (vi (2)) [.row 3 (l2 : List (Ev)) Bool.true]) (So (y2p l2) (fun (y2 : List Int) => (So (y31 l2 y2) (fun (y3 : Int) => (br (y3 != 0) (K (vi (y3)) [.row 3 (l2 : List (Ev)) Bool.true]) (So (y1b c l2 y2) (fun (y4 : Int × Bool × Int × ye × List Int × List (List Int)) => (br (Prod.fst (Prod.snd y4)) (K (vi (Prod.fst (Prod.snd (Prod.snd y4)))) [.row 3 (l2 : List (Ev)) Bool.true]) (K (vi (Prod.fst (Prod.snd (Prod.snd y4)))) [.row 3 (l2 : List (Ev)) Bool.true])))))))))))) (K (vi (2)) [.row 3 (l2 : List (Ev)) Bool.true])))) := by
  kernel_rfl
noncomputable def y40 (many : Int) (places : List Int) (t8 : Int) (t9 : Int) : Option ((Int) ⊕ (Bool)) :=
  (bif (Decidable.decide (t9 < t8)) then (bif (inR t9 (List.length places)) then (bif (inR (offs t9 0) (List.length places)) then (bif (Decidable.decide (List.getD places (Int.toNat (offs t9 0)) 0 < 0)) then some (.inr ((Bool.false))) else (bif (Decidable.decide (List.getD places (Int.toNat (offs t9 0)) 0 ≥ many)) then some (.inr ((Bool.false))) else some (.inl (IntKind.wrap IntKind.i64 (t9 + 1))))) else none) else none) else some (.inr ((Bool.true))))
noncomputable def y93 (many : Int) (places : List Int) (t8 : Int) (s : Int) : Option (Bool) :=
  loopO (fun s => y40 many places t8 s) s
noncomputable def y1l (many : Int) (places : List Int) : Option (Bool) :=
  (y93 many places ((↑(List.length places) : Int)) (0))
noncomputable def y4r (l2 : List Ev) (places : List Int) (t28 : Int) (c2 : Int) (c3 : Int) (c4 : Int) (c5 : Int) (c6 : Int) (c7 : Int) (c8 : Int) (c9 : Int) (c10 : Int) (c11 : Int) (c12 : Int) (c13 : Int) (c14 : Int) (c15 : Int) (c16 : Int) (c17 : Int) (c18 : Int) (c19 : Int) (c20 : Int) (c21 : Int) (c22 : Int) (c23 : Int) (c24 : Int) (t29 : Int) (w : List Int) (w2 : List (List Int)) : Option ((Int × (List Int) × (List (List Int))) ⊕ (Int × Bool × Int × ye × (List Int) × (List (List Int)))) :=
  (bif (Decidable.decide (t29 < t28)) then (bif (inR t29 (List.length places)) then (bif (inR (offs t29 0) (List.length places)) then (bif (inR (List.getD places (Int.toNat (offs t29 0)) 0) (List.length l2)) then (bif (inR (offs (List.getD places (Int.toNat (offs t29 0)) 0) 0) (List.length l2)) then (bif (inR (List.getD places (Int.toNat (offs t29 0)) 0) (List.length l2)) then (bif (inR (offs (List.getD places (Int.toNat (offs t29 0)) 0) 0) (List.length l2)) then ((y1c (yc.mk (Ev.CKind (List.getD l2 (Int.toNat (offs (List.getD places (Int.toNat (offs t29 0)) 0) 0)) dEv)) (Ev.CAddr (List.getD l2 (Int.toNat (offs (List.getD places (Int.toNat (offs t29 0)) 0) 0)) dEv)) (Ev.CSize (List.getD l2 (Int.toNat (offs (List.getD places (Int.toNat (offs t29 0)) 0) 0)) dEv)) (Ev.CAlign (List.getD l2 (Int.toNat (offs (List.getD places (Int.toNat (offs t29 0)) 0) 0)) dEv)) (Ev.CValue (List.getD l2 (Int.toNat (offs (List.getD places (Int.toNat (offs t29 0)) 0) 0)) dEv))) (T_api_Reply.mk (Ev.RErr (List.getD l2 (Int.toNat (offs (List.getD places (Int.toNat (offs t29 0)) 0) 0)) dEv)) (Ev.RAddr (List.getD l2 (Int.toNat (offs (List.getD places (Int.toNat (offs t29 0)) 0) 0)) dEv)) (Ev.RSize (List.getD l2 (Int.toNat (offs (List.getD places (Int.toNat (offs t29 0)) 0) 0)) dEv)) (Ev.RValue (List.getD l2 (Int.toNat (offs (List.getD places (Int.toNat (offs t29 0)) 0) 0)) dEv)) (ya.mk (Ev.SBlocks (List.getD l2 (Int.toNat (offs (List.getD places (Int.toNat (offs t29 0)) 0) 0)) dEv)) (Ev.SAsked (List.getD l2 (Int.toNat (offs (List.getD places (Int.toNat (offs t29 0)) 0) 0)) dEv)) (Ev.SWords (List.getD l2 (Int.toNat (offs (List.getD places (Int.toNat (offs t29 0)) 0) 0)) dEv)) (Ev.SKept (List.getD l2 (Int.toNat (offs (List.getD places (Int.toNat (offs t29 0)) 0) 0)) dEv)) (Ev.SOpen (List.getD l2 (Int.toNat (offs (List.getD places (Int.toNat (offs t29 0)) 0) 0)) dEv)) (Ev.SMapped (List.getD l2 (Int.toNat (offs (List.getD places (Int.toNat (offs t29 0)) 0) 0)) dEv)) (Ev.SUsed (List.getD l2 (Int.toNat (offs (List.getD places (Int.toNat (offs t29 0)) 0) 0)) dEv)))) (ye.mk (yb.mk c2 c3 c4 c5 c6 c7 c8 c9 c10 c11 c12) c13 c14 c15 c16 c17 c18 c19 c20 c21 c22 c23 c24) w w2).bind fun y0 => (bif (!Prod.fst y0) then some (.inr (((t29), (Bool.true), (18), ((ye.mk (yb.mk (c2) (c3) (c4) (c5) (c6) (c7) (c8) (c9) (c10) (c11) (c12)) (c13) (c14) (c15) (c16) (c17) (c18) (c19) (c20) (c21) (c22) (c23) (c24))), (Prod.snd (Prod.snd y0)), (Prod.fst (Prod.snd y0))))) else some (.inl ((IntKind.wrap IntKind.i64 (t29 + 1)), (Prod.snd (Prod.snd y0)), (Prod.fst (Prod.snd y0)))))) else none) else none) else none) else none) else none) else none) else some (.inr ((((↑(List.length places) : Int)), (Bool.true), (0), ((ye.mk (yb.mk (c2) (c3) (c4) (c5) (c6) (c7) (c8) (c9) (c10) (c11) (c12)) (c13) (c14) (c15) (c16) (c17) (c18) (c19) (c20) (c21) (c22) (c23) (c24))), (w), (w2)))))
noncomputable def y3u (l2 : List Ev) (places : List Int) (t28 : Int) (c2 : Int) (c3 : Int) (c4 : Int) (c5 : Int) (c6 : Int) (c7 : Int) (c8 : Int) (c9 : Int) (c10 : Int) (c11 : Int) (c12 : Int) (c13 : Int) (c14 : Int) (c15 : Int) (c16 : Int) (c17 : Int) (c18 : Int) (c19 : Int) (c20 : Int) (c21 : Int) (c22 : Int) (c23 : Int) (c24 : Int) (s : Int × (List Int) × (List (List Int))) : Option (Int × Bool × Int × ye × (List Int) × (List (List Int))) :=
  loopO (fun s => y4r l2 places t28 c2 c3 c4 c5 c6 c7 c8 c9 c10 c11 c12 c13 c14 c15 c16 c17 c18 c19 c20 c21 c22 c23 c24 s.1 s.2.1 s.2.2) s
noncomputable def y1b (c : yb) (l2 : List Ev) (places : List Int) : Option (Int × Bool × Int × ye × (List Int) × (List (List Int))) :=
  ((y0t c).bind fun y0 => (bif (Prod.fst y0) then ((y1l (↑(List.length l2) : Int) places).bind fun y1 => (bif (!y1) then some (((0), (Bool.false), (2), ((ye.mk (yb.mk (0) (0) (0) (0) (0) (0) (0) (0) (0) (0) (0)) (0) (0) (0) (0) (0) (0) (0) (0) (0) (0) (0) (0))), ([]), ([]))) else (y3u l2 places ((↑(List.length places) : Int)) (yb.Workers (ye.c (Prod.fst (Prod.snd y0)))) (yb.CPUs (ye.c (Prod.fst (Prod.snd y0)))) (yb.Pages (ye.c (Prod.fst (Prod.snd y0)))) (yb.Stripes (ye.c (Prod.fst (Prod.snd y0)))) (yb.Tries (ye.c (Prod.fst (Prod.snd y0)))) (yb.Wait (ye.c (Prod.fst (Prod.snd y0)))) (yb.Clock (ye.c (Prod.fst (Prod.snd y0)))) (yb.Private (ye.c (Prod.fst (Prod.snd y0)))) (yb.Cache (ye.c (Prod.fst (Prod.snd y0)))) (yb.Bin (ye.c (Prod.fst (Prod.snd y0)))) (yb.Batch (ye.c (Prod.fst (Prod.snd y0)))) (ye.at_0 (Prod.fst (Prod.snd y0))) (ye.at_1 (Prod.fst (Prod.snd y0))) (ye.at_2 (Prod.fst (Prod.snd y0))) (ye.at_3 (Prod.fst (Prod.snd y0))) (ye.at_4 (Prod.fst (Prod.snd y0))) (ye.at_5 (Prod.fst (Prod.snd y0))) (ye.at_6 (Prod.fst (Prod.snd y0))) (ye.at_7 (Prod.fst (Prod.snd y0))) (ye.at_8 (Prod.fst (Prod.snd y0))) (ye.at_9 (Prod.fst (Prod.snd y0))) (ye.at_10 (Prod.fst (Prod.snd y0))) (ye.at_11 (Prod.fst (Prod.snd y0))) ((0), (Prod.fst (Prod.snd (Prod.snd y0))), (Prod.snd (Prod.snd (Prod.snd y0))))))) else some (((0), (Bool.false), (2), ((ye.mk (yb.mk (0) (0) (0) (0) (0) (0) (0) (0) (0) (0) (0)) (0) (0) (0) (0) (0) (0) (0) (0) (0) (0) (0) (0))), ([]), ([])))))
noncomputable def y0q (c : yb) (l2 : List Ev) : Option (Int) :=
  ((y0t c).bind fun y0 => (bif (Prod.fst y0) then ((y23 (yb.Workers c) l2).bind fun y1 => (bif (!y1) then some ((2)) else ((y2p l2).bind fun y2 => ((y31 l2 y2).bind fun y3 => (bif (y3 != 0) then some ((y3)) else ((y1b c l2 y2).bind fun y4 => (bif (Prod.fst (Prod.snd y4)) then some ((Prod.fst (Prod.snd (Prod.snd y4)))) else some ((Prod.fst (Prod.snd (Prod.snd y4))))))))))) else some ((2))))
attribute [local irreducible] Loop ex exF contK roundK retK at_ bodyOf mkEnv exFW retW
theorem lpok_linear_there_L1 (many : Int) (places : List Int) (t8 : Int) (t9 : Int) (K : V → Heap → Prop) : So (y93 (many) (places) (t8) t9) (fun (x : Bool) => K (vb (x)) [.row 0 places true]) → Loop y3j (⟨21, 1⟩ : Cx) (at_ (bodyOf Try.f59) [1, 0, 1, 0, 0]) (mkEnv [(0, vi (many)), (7, .row 0), (8, vi (t8)), (9, vi (t9))]) [.row 0 (places : List (Int)) Bool.true] (contK y3j (⟨21, 1⟩ : Cx) (bodyOf Try.f59) [1, 0, 1, 0] (retK y3j Try.f59 1 K)) := by
  refine loopK_So (fun (s_ : Int) => (mkEnv [(0, vi (many)), (7, .row 0), (8, vi (t8)), (9, vi ((s_)))])) (fun (s_ : Int) => [.row 0 (places : List (Int)) Bool.true]) (fun (x : Bool) => K (vb (x)) [.row 0 places true]) ?_ t9
  intro s_ J1 h
  clear t9
  revert h; revert s_; intro t9 h
  refine Eq.mpr (yiz many places t8 t9 K J1) ?_
  have h : So (y40 (many) (places) (t8) t9) _ := h
  unfold y40 at h
  revert h
  exact br_So (req_So (req_So (br_So (fun h => h) (br_So (fun h => h) (fun h => h))))) (fun h => h)
theorem yi4 : SpecOK Try.prog elTT 59 (yba y1l) := by
  refine spec_of_exF (cfg := y3j) (yn rfl rfl rfl) yp (fn := Try.f59) (by kernel_rfl) (by kernel_rfl) (by kernel_rfl) ?_
  intro args H K h
  change y8g y1l args H K at h
  unfold y8g at h
  repeat first | (obtain ⟨_, h⟩ := h) | replace h := Des.el h
  subst_vars
  refine Eq.mpr (yfr _ _ K) ?_
  unfold y1l at h
  revert h
  exact lpok_linear_there_L1 _ _ _ _ K
theorem lpok_linear_Run_L1 (c : yb) (l2 : List Ev) (places : List Int) (t28 : Int) (t29 : Int) (c2 : Int) (c3 : Int) (c4 : Int) (c5 : Int) (c6 : Int) (c7 : Int) (c8 : Int) (c9 : Int) (c10 : Int) (c11 : Int) (c12 : Int) (c13 : Int) (c14 : Int) (c15 : Int) (c16 : Int) (c17 : Int) (c18 : Int) (c19 : Int) (c20 : Int) (c21 : Int) (c22 : Int) (c23 : Int) (c24 : Int) (w : List Int) (w2 : List (List Int)) (K : V → Heap → Prop) : So (y3u (l2) (places) (t28) (c2) (c3) (c4) (c5) (c6) (c7) (c8) (c9) (c10) (c11) (c12) (c13) (c14) (c15) (c16) (c17) (c18) (c19) (c20) (c21) (c22) (c23) (c24) (t29, w, w2)) (fun (x : Int × Bool × Int × ye × (List Int) × (List (List Int))) => br (x.2.1) (K (.tup [vi (x.1), .ptr 2 0, vi (x.2.2.1)]) [.row 3 l2 true, .row 0 places true, .cells 0 (yk (x.2.2.2.1) ++ [.ptr 3 0, .row 4]), .cells 0 [.row 5], .row 0 (x.2.2.2.2.1) false, .row 70 (x.2.2.2.2.2) false]) (K (.tup [vi (x.1), .ext (.pointer none), vi (x.2.2.1)]) [.row 3 l2 true, .row 0 places true])) → Loop (y3a y0t y1l y1p y1c) (⟨53, 2⟩ : Cx) (at_ (bodyOf Try.f28) [1, 1, 1, 0, 1, 0, 0]) (mkEnv [(1, .row 0), (2, .row 1), (9, .ptr 2 0), (27, .row 1), (28, vi (t28)), (29, vi (t29))]) [.row 3 (l2 : List (Ev)) Bool.true, .row 0 (places : List (Int)) Bool.true, .cells 0 [vi (c2), vi (c3), vi (c4), vi (c5), vi (c6), vi (c7), vi (c8), vi (c9), vi (c10), vi (c11), vi (c12), vi (c13), vi (c14), vi (c15), vi (c16), vi (c17), vi (c18), vi (c19), vi (c20), vi (c21), vi (c22), vi (c23), vi (c24), .ptr 3 0, .row 4], .cells 0 [.row 5], .row 0 (w : List (Int)) Bool.false, .row 70 (w2 : List (List Int)) Bool.false] (contK (y3a y0t y1l y1p y1c) (⟨53, 2⟩ : Cx) (bodyOf Try.f28) [1, 1, 1, 0, 1, 0] (retW (y3a y0t y1l y1p y1c) wk_linear_Run Try.f28 2 K)) := by
  refine loopK_So (fun (s_ : Int × (List Int) × (List (List Int))) => (mkEnv [(1, .row 0), (2, .row 1), (9, .ptr 2 0), (27, .row 1), (28, vi (t28)), (29, vi ((s_.1)))])) (fun (s_ : Int × (List Int) × (List (List Int))) => [.row 3 (l2 : List (Ev)) Bool.true, .row 0 (places : List (Int)) Bool.true, .cells 0 [vi (c2), vi (c3), vi (c4), vi (c5), vi (c6), vi (c7), vi (c8), vi (c9), vi (c10), vi (c11), vi (c12), vi (c13), vi (c14), vi (c15), vi (c16), vi (c17), vi (c18), vi (c19), vi (c20), vi (c21), vi (c22), vi (c23), vi (c24), .ptr 3 0, .row 4], .cells 0 [.row 5], .row 0 ((s_.2.1) : List (Int)) Bool.false, .row 70 ((s_.2.2) : List (List Int)) Bool.false]) (fun (x : Int × Bool × Int × ye × (List Int) × (List (List Int))) => br (x.2.1) (K (.tup [vi (x.1), .ptr 2 0, vi (x.2.2.1)]) [.row 3 l2 true, .row 0 places true, .cells 0 (yk (x.2.2.2.1) ++ [.ptr 3 0, .row 4]), .cells 0 [.row 5], .row 0 (x.2.2.2.2.1) false, .row 70 (x.2.2.2.2.2) false]) (K (.tup [vi (x.1), .ext (.pointer none), vi (x.2.2.1)]) [.row 3 l2 true, .row 0 places true])) ?_ (t29, w, w2)
  intro s_ J1 h
  clear t29
  clear w
  clear w2
  obtain ⟨t29, w, w2⟩ := s_
  refine Eq.mpr (yhg y0t y1l y1p y1c c l2 places t28 t29 c2 c3 c4 c5 c6 c7 c8 c9 c10 c11 c12 c13 c14 c15 c16 c17 c18 c19 c20 c21 c22 c23 c24 w w2 K J1) ?_
  have h : So (y4r (l2) (places) (t28) (c2) (c3) (c4) (c5) (c6) (c7) (c8) (c9) (c10) (c11) (c12) (c13) (c14) (c15) (c16) (c17) (c18) (c19) (c20) (c21) (c22) (c23) (c24) t29 w w2) _ := h
  unfold y4r at h
  revert h
  exact br_So (req_So (req_So (req_So (req_So (req_So (req_So (bind_So fun y0 => br_So (fun h => h) (fun h => h)))))))) (fun h => h)
theorem ydw : SpecOK Try.prog elTT 28 (y7a y1b) := by
  refine spec_of_exFW (cfg := (y3a y0t y1l y1p y1c)) (yn rfl rfl rfl) (yj y9v (yj yi4 (yj (altNil_ok yfe yem) yp))) (pre := []) (wk := wk_linear_Run) (fn := Try.f28) (by kernel_rfl) (by kernel_rfl) (by kernel_rfl) ?_
  intro args H K h
  change y7l y1b args H K at h
  unfold y7l at h
  repeat first | (obtain ⟨_, h⟩ := h) | replace h := Des.el h
  subst_vars
  refine Eq.mpr (yie y0t y1l y1p y1c _ _ _ K) ?_
  unfold y1b at h
  revert h
  exact bind_So fun y0 => br_So (bind_So fun y1 => br_So (fun h => h) (lpok_linear_Run_L1 (by first | assumption | exact default) _ _ _ _ _ _ _ _ _ _ _ _ _ _ _ _ _ _ _ _ _ _ _ _ _ _ _ _ _ K)) (fun h => h)
theorem yia : SpecOK Try.prog elTT 29 (ydo y0q) := by
  refine spec_of_exF (cfg := (ydg y0t y23 y2p y31 y1b)) (yn rfl rfl rfl) (yj y9v (yj yfm (yj yib (yj ygi (yj ydw yp))))) (fn := Try.f29) (by kernel_rfl) (by kernel_rfl) (by kernel_rfl) ?_
  intro args H K h
  change y8k y0q args H K at h
  unfold y8k at h
  repeat first | (obtain ⟨_, h⟩ := h) | replace h := Des.el h
  subst_vars
  refine Eq.mpr (yhc y0t y23 y2p y31 y1b _ _ K) ?_
  unfold y0q at h
  revert h
  exact bind_So fun y0 => br_So (bind_So fun y1 => br_So (fun h => h) (bind_So fun y2 => bind_So fun y3 => br_So (fun h => h) (bind_So fun y4 => br_So (fun h => h) (fun h => h)))) (fun h => h)
end Go.Rx
end

section
namespace Go.Rx
open Go.Proofs
def wNil (k tg : Nat) (s : Spec) : Spec := ⟨s.tr, ⟨s.ro.b, s.ro.m, fun i => s.ro.c i || Nat.beq i (1000000 + 1000 * k + tg)⟩⟩
def wSub (s : Spec) : Spec := ⟨s.tr, ⟨s.ro.b, s.ro.m, fun i => s.ro.c i || Nat.beq i 999999⟩⟩
def ybv (m_ : Y3) : Spec := wNil 2 0 (y7a m_)
theorem yjm : SpecOK Try.prog elTT 28 (ybv y1b) := ydw
def y90 (m_ : Y11) : Spec := wSub (ydo m_)
theorem ybd : SpecOK Try.prog elTT 29 (y90 y0q) := yia
end Go.Rx
end

noncomputable section
namespace Go.Rx
open Go.Proofs
set_option maxRecDepth 100000
set_option maxHeartbeats 4000000
abbrev Y7 := yb → (List Ev) → (List Int) → Option (Int × Bool × Int × T_assartref02_Layout × (List (List Int)) × (List Int))
def y8d (m_ : Y7) (args : List V) (H : Heap) (K : V → Heap → Prop) : Prop :=
  aC args fun a0 r => aC r fun a1 r => aC r fun a2 r => aN r <| aAgg a0 fun c0 => y26 c0 fun c => aRow 0 a1 <| aRow 1 a2 <| aC H fun b0 r => aC r fun b1 r => aN r <| bRow 3 true b0 fun (l2 : List Ev) => bRow 0 true b1 fun (order : List Int) => So (m_ c l2 order) fun x => br x.2.1 (K (.tup [vi x.1, .ptr 2 0, vi x.2.2.1]) [.row 3 l2 true, .row 0 order true, .cells 0 (y05 x.2.2.2.1 ++ [.row 3, .row 4]), .row 6 x.2.2.2.2.1 false, .row 0 x.2.2.2.2.2 false]) (K (.tup [vi x.1, .ext (.pointer none), vi x.2.2.1]) [.row 3 l2 true, .row 0 order true])
def y9t (m_ : Y7) : Spec := ⟨y8d m_, (true : Bool)⟩
def y72 (m_ : Y11) (args : List V) (H : Heap) (K : V → Heap → Prop) : Prop :=
  aC args fun a0 r => aC r fun a1 r => aN r <| aAgg a0 fun c0 => y26 c0 fun c => aRow 0 a1 <| aC H fun b0 r => aN r <| bRow 3 true b0 fun (l2 : List Ev) => So (m_ c l2) fun x => K (vi x) [.row 3 l2 true]
def yec (m_ : Y11) : Spec := ⟨y72 m_, (true : Bool)⟩
def wk_ref27_Run : List WK := [⟨true, 1, [], 0, 0, true⟩, ⟨true, 1, [], 11, 6, false⟩, ⟨true, 1, [], 12, 0, false⟩]
def y1o (y06 : Y26) (y0l : Y8) (y0h : yc → T_api_Reply → T_assartref02_Layout → (List (List Int)) → (List Int) → Option (Bool × (List (List Int)) × (List Int))) : Cfg := { cfgB with
  sigs := (sigC 63 (y6x y06) (sigC 11 (yds y0l) (sigC 16 (ydy y0h) sigN))),
  keep := fun r => match r with | 4 => some [(1, some 3), (2, some 0), (3, none), (9, none)] | 10 => some [(1, some 3), (2, some 0), (10, none), (11, none)] | _ => none }
def ycb (y06 : Y26) (y2o : Y16) (y30 : Y17) (y37 : Y15) (y2q : Y7) : Cfg := { cfgB with
  sigs := (sigC 63 (y6x y06) (sigC 64 (yce y2o) (sigC 65 (ycn y30) (sigC 66 (yb5 y37) (sigC 67 (y9t y2q) sigN))))) }
theorem yip (y06 : Y26) (y0l : Y8) (y0h : yc → T_api_Reply → T_assartref02_Layout → (List (List Int)) → (List Int) → Option (Bool × (List (List Int)) × (List Int))) (c : yb) (l2 : List Ev) (order : List Int) (iv c2 : Int) (c3 c4 : Int) (c5 c6 : Int) (c7 c8 : Int) (c9 c10 : Int) (c11 c12 : Int) (w : List (List Int)) (w2 : List Int) (K : V → Heap → Prop) (J1 : Env → Heap → Prop) : (ex (y1o y06 y0l y0h) (⟨63, 2⟩ : Cx) (at_ (bodyOf Try.f67) [1, 1, 1, 1, 0, 1, 0, 0]) (mkEnv [(1, .row 0), (2, .row 1), (10, .ptr 2 0), (11, vi iv)]) [.row 3 (l2 : List Go.Rx.Ev) true, .row 0 order true, .cells 0 [vi c2, vi c3, vi c4, vi c5, vi c6, vi c7, vi c8, vi c9, vi c10, vi c11, vi c12, .row 3, .row 4], .row 6 w false, .row 0 w2 false] (roundK (y1o y06 y0l y0h) (⟨63, 2⟩ : Cx) (at_ (bodyOf Try.f67) [1, 1, 1, 1, 0, 1, 0, 0]) (contK (y1o y06 y0l y0h) (⟨63, 2⟩ : Cx) (bodyOf Try.f67) [1, 1, 1, 1, 0, 1, 0] (retW (y1o y06 y0l y0h) wk_ref27_Run Try.f67 2 K)) J1)) = (
    br (decide (iv < (↑order.length : Int))) (Req (inR iv order.length) (Req (inR (offs iv 0) order.length) (Req (inR (order.getD (offs iv 0).toNat 0) l2.length) (Req (inR (offs (order.getD (offs iv 0).toNat 0) 0) l2.length) (So (y0h (yc.mk (Ev.CKind (l2.getD (Int.toNat (offs (order.getD (offs iv 0).toNat 0) 0)) dEv)) (Ev.CAddr (l2.getD (Int.toNat (offs (order.getD (offs iv 0).toNat 0) 0)) dEv)) (Ev.CSize (l2.getD (Int.toNat (offs (order.getD (offs iv 0).toNat 0) 0)) dEv)) (Ev.CAlign (l2.getD (Int.toNat (offs (order.getD (offs iv 0).toNat 0) 0)) dEv)) (Ev.CValue (l2.getD (Int.toNat (offs (order.getD (offs iv 0).toNat 0) 0)) dEv))) (T_api_Reply.mk (Ev.RErr (l2.getD (Int.toNat (offs (order.getD (offs iv 0).toNat 0) 0)) dEv)) (Ev.RAddr (l2.getD (Int.toNat (offs (order.getD (offs iv 0).toNat 0) 0)) dEv)) (Ev.RSize (l2.getD (Int.toNat (offs (order.getD (offs iv 0).toNat 0) 0)) dEv)) (Ev.RValue (l2.getD (Int.toNat (offs (order.getD (offs iv 0).toNat 0) 0)) dEv)) (ya.mk (Ev.SBlocks (l2.getD (Int.toNat (offs (order.getD (offs iv 0).toNat 0) 0)) dEv)) (Ev.SAsked (l2.getD (Int.toNat (offs (order.getD (offs iv 0).toNat 0) 0)) dEv)) (Ev.SWords (l2.getD (Int.toNat (offs (order.getD (offs iv 0).toNat 0) 0)) dEv)) (Ev.SKept (l2.getD (Int.toNat (offs (order.getD (offs iv 0).toNat 0) 0)) dEv)) (Ev.SOpen (l2.getD (Int.toNat (offs (order.getD (offs iv 0).toNat 0) 0)) dEv)) (Ev.SMapped (l2.getD (Int.toNat (offs (order.getD (offs iv 0).toNat 0) 0)) dEv)) (Ev.SUsed (l2.getD (Int.toNat (offs (order.getD (offs iv 0).toNat 0) 0)) dEv)))) (T_assartref02_Layout.mk (yb.mk c2 c3 c4 c5 c6 c7 c8 c9 c10 c11 c12)) w w2) (fun (y0 : Bool × List (List Int) × List Int) => (br (!y0.1) (K (.tup [vi iv, .ptr 2 0, vi 18]) [.row 3 l2 true, .row 0 order true, .cells 0 [vi c2, vi c3, vi c4, vi c5, vi c6, vi c7, vi c8, vi c9, vi c10, vi c11, vi c12, .row 3, .row 4], .row 6 (y0.2.1 : List (List Int)) false, .row 0 (y0.2.2 : List Int) false]) (J1 (mkEnv [(1, .row 0), (2, .row 1), (10, .ptr 2 0), (11, vi (IntKind.i64.wrap (iv + 1)))]) [.row 3 l2 true, .row 0 order true, .cells 0 [vi c2, vi c3, vi c4, vi c5, vi c6, vi c7, vi c8, vi c9, vi c10, vi c11, vi c12, .row 3, .row 4], .row 6 (y0.2.1 : List (List Int)) false, .row 0 (y0.2.2 : List Int) false])))))))) (K (.tup [vi (↑order.length : Int), .ptr 2 0, vi 0]) [.row 3 l2 true, .row 0 order true, .cells 0 [vi c2, vi c3, vi c4, vi c5, vi c6, vi c7, vi c8, vi c9, vi c10, vi c11, vi c12, .row 3, .row 4], .row 6 w false, .row 0 w2 false])) := by kernel_rfl
theorem yhh (y06 : Y26) (y0l : Y8) (y0h : yc → T_api_Reply → T_assartref02_Layout → (List (List Int)) → (List Int) → Option (Bool × (List (List Int)) × (List Int))) (c : yb) (l2 : List Ev) (order : List Int) (iv : Int) (K : V → Heap → Prop) (J1 : Env → Heap → Prop) : (ex (y1o y06 y0l y0h) (⟨63, 2⟩ : Cx) (at_ (bodyOf Try.f67) [1, 1, 0, 1, 0, 0]) (mkEnv [(1, .row 0), (2, .row 1), (3, .ptr 2 0), (9, vi iv)]) [.row 3 (l2 : List Go.Rx.Ev) true, .row 0 order true, .cells 23 (yl c)] (roundK (y1o y06 y0l y0h) (⟨63, 2⟩ : Cx) (at_ (bodyOf Try.f67) [1, 1, 0, 1, 0, 0]) (contK (y1o y06 y0l y0h) (⟨63, 2⟩ : Cx) (bodyOf Try.f67) [1, 1, 0, 1, 0] (retW (y1o y06 y0l y0h) wk_ref27_Run Try.f67 2 K)) J1)) = (
    br (decide (iv < (↑order.length : Int))) (Req (inR iv order.length) (Req (inR (offs iv 0) order.length) (br (decide (order.getD (offs iv 0).toNat 0 < 0)) (K (.tup [vi 0, .ext (Go.Value.pointer Option.none), vi 2]) [.row 3 l2 true, .row 0 order true]) (Req (inR iv order.length) (Req (inR (offs iv 0) order.length) (br (decide (order.getD (offs iv 0).toNat 0 ≥ (↑l2.length : Int))) (K (.tup [vi 0, .ext (Go.Value.pointer Option.none), vi 2]) [.row 3 l2 true, .row 0 order true]) (J1 (mkEnv [(1, .row 0), (2, .row 1), (3, .ptr 2 0), (9, vi (IntKind.i64.wrap (iv + 1)))]) [.row 3 l2 true, .row 0 order true, .cells 23 (yl c)]))))))) (So (y0l c) (fun (y0 : T_assartref02_Layout × List (List Int) × List Int) => (Loop (y1o y06 y0l y0h) (⟨63, 2⟩ : Cx) (at_ (bodyOf Try.f67) [1, 1, 1, 1, 0, 1, 0, 0]) (mkEnv [(1, .row 0), (2, .row 1), (10, .ptr 2 0), (11, vi 0)]) [.row 3 l2 true, .row 0 order true, .cells 0 (yl y0.1.C ++ [.row 3, .row 4]), .row 6 (y0.2.1 : List (List Int)) false, .row 0 (y0.2.2 : List Int) false] (contK (y1o y06 y0l y0h) (⟨63, 2⟩ : Cx) (bodyOf Try.f67) [1, 1, 1, 1, 0, 1, 0] (retW (y1o y06 y0l y0h) wk_ref27_Run Try.f67 2 K)))))) := by kernel_rfl
theorem yfh (y06 : Y26) (y0l : Y8) (y0h : yc → T_api_Reply → T_assartref02_Layout → (List (List Int)) → (List Int) → Option (Bool × (List (List Int)) × (List Int))) (c : yb) (l2 : List Ev) (order : List Int) (K : V → Heap → Prop) : (exFW (y1o y06 y0l y0h) [] wk_ref27_Run Try.f67 [.agg (yl c), .row 0, .row 1] [.row 3 l2 true, .row 0 order true] K) = (
    So (y06 c) (fun (y0 : Bool) => (br (!y0) (K (.tup [vi 0, .ext (Go.Value.pointer Option.none), vi 2]) [.row 3 l2 true, .row 0 order true]) (Loop (y1o y06 y0l y0h) (⟨63, 2⟩ : Cx) (at_ (bodyOf Try.f67) [1, 1, 0, 1, 0, 0]) (mkEnv [(1, .row 0), (2, .row 1), (3, .ptr 2 0), (9, vi 0)]) [.row 3 l2 true, .row 0 order true, .cells 23 (yl c)] (contK (y1o y06 y0l y0h) (⟨63, 2⟩ : Cx) (bodyOf Try.f67) [1, 1, 0, 1, 0] (retW (y1o y06 y0l y0h) wk_ref27_Run Try.f67 2 K)))))) := by kernel_rfl
theorem ygc (y06 : Y26) (y2o : Y16) (y30 : Y17) (y37 : Y15) (y2q : Y7) (c : yb) (l2 : List Ev) (K : V → Heap → Prop) : (exF (ycb y06 y2o y30 y37 y2q) Try.f30 [.agg (yl c), .row 0] [.row 3 l2 true] K) = (
    So (y06 c) (fun (y0 : Bool) => (br (!y0) (K (vi 2) [.row 3 l2 true]) (So (y2o c.Workers l2) (fun (y1 : Bool) => (br (!y1) (K (vi 2) [.row 3 l2 true]) (So (y30 l2) (fun (y2 : List Int) => (So (y37 l2 y2) (fun (y3 : Int) => (br (y3 != 0) (K (vi y3) [.row 3 l2 true]) (So (y2q c l2 y2) (fun (y4 : Int × Bool × Int × T_assartref02_Layout × List (List Int) × List Int) => (br y4.2.1 (K (vi y4.2.2.1) [.row 3 l2 true]) (K (vi y4.2.2.1) [.row 3 l2 true]))))))))))))))) := by kernel_rfl
def y4q (l2 : List Ev) (order : List Int) (c2 c3 : Int) (c4 c5 : Int) (c6 c7 : Int) (c8 c9 : Int) (c10 c11 : Int) (c12 iv : Int) (w : List (List Int)) (w2 : List Int) : Option ((Int × (List (List Int)) × (List Int)) ⊕ (Int × Bool × Int × T_assartref02_Layout × (List (List Int)) × (List Int))) :=
  (bif (decide (iv < (↑order.length : Int))) then (bif (inR iv order.length) then (bif (inR (offs iv 0) order.length) then (bif (inR (order.getD (offs iv 0).toNat 0) l2.length) then (bif (inR (offs (order.getD (offs iv 0).toNat 0) 0) l2.length) then ((y0h (yc.mk (Ev.CKind (l2.getD (Int.toNat (offs (order.getD (offs iv 0).toNat 0) 0)) dEv)) (Ev.CAddr (l2.getD (Int.toNat (offs (order.getD (offs iv 0).toNat 0) 0)) dEv)) (Ev.CSize (l2.getD (Int.toNat (offs (order.getD (offs iv 0).toNat 0) 0)) dEv)) (Ev.CAlign (l2.getD (Int.toNat (offs (order.getD (offs iv 0).toNat 0) 0)) dEv)) (Ev.CValue (l2.getD (Int.toNat (offs (order.getD (offs iv 0).toNat 0) 0)) dEv))) (T_api_Reply.mk (Ev.RErr (l2.getD (Int.toNat (offs (order.getD (offs iv 0).toNat 0) 0)) dEv)) (Ev.RAddr (l2.getD (Int.toNat (offs (order.getD (offs iv 0).toNat 0) 0)) dEv)) (Ev.RSize (l2.getD (Int.toNat (offs (order.getD (offs iv 0).toNat 0) 0)) dEv)) (Ev.RValue (l2.getD (Int.toNat (offs (order.getD (offs iv 0).toNat 0) 0)) dEv)) (ya.mk (Ev.SBlocks (l2.getD (Int.toNat (offs (order.getD (offs iv 0).toNat 0) 0)) dEv)) (Ev.SAsked (l2.getD (Int.toNat (offs (order.getD (offs iv 0).toNat 0) 0)) dEv)) (Ev.SWords (l2.getD (Int.toNat (offs (order.getD (offs iv 0).toNat 0) 0)) dEv)) (Ev.SKept (l2.getD (Int.toNat (offs (order.getD (offs iv 0).toNat 0) 0)) dEv)) (Ev.SOpen (l2.getD (Int.toNat (offs (order.getD (offs iv 0).toNat 0) 0)) dEv)) (Ev.SMapped (l2.getD (Int.toNat (offs (order.getD (offs iv 0).toNat 0) 0)) dEv)) (Ev.SUsed (l2.getD (Int.toNat (offs (order.getD (offs iv 0).toNat 0) 0)) dEv)))) (T_assartref02_Layout.mk (yb.mk c2 c3 c4 c5 c6 c7 c8 c9 c10 c11 c12)) w w2).bind fun y0 => (bif (!y0.1) then some (.inr (iv, true, 18, (T_assartref02_Layout.mk (yb.mk c2 c3 c4 c5 c6 c7 c8 c9 c10 c11 c12)), y0.2.1, y0.2.2)) else some (.inl ((IntKind.i64.wrap (iv + 1)), y0.2.1, y0.2.2)))) else none) else none) else none) else none) else some (.inr ((↑order.length : Int), true, 0, (T_assartref02_Layout.mk (yb.mk c2 c3 c4 c5 c6 c7 c8 c9 c10 c11 c12)), w, w2)))
def y4a (l2 : List Ev) (order : List Int) (c2 c3 : Int) (c4 c5 : Int) (c6 c7 : Int) (c8 c9 : Int) (c10 c11 c12 : Int) (s : Int × (List (List Int)) × (List Int)) : Option (Int × Bool × Int × T_assartref02_Layout × (List (List Int)) × (List Int)) :=
  loopO (fun s => y4q l2 order c2 c3 c4 c5 c6 c7 c8 c9 c10 c11 c12 s.1 s.2.1 s.2.2) s
def y4h (c : yb) (l2 : List Ev) (order : List Int) (iv : Int) : Option (Int ⊕ (Int × Bool × Int × T_assartref02_Layout × (List (List Int)) × (List Int))) :=
  (bif (decide (iv < (↑order.length : Int))) then (bif (inR iv order.length) then (bif (inR (offs iv 0) order.length) then (bif (decide (order.getD (offs iv 0).toNat 0 < 0)) then some (.inr (0, false, 2, (T_assartref02_Layout.mk (yb.mk 0 0 0 0 0 0 0 0 0 0 0)), ([]), ([]))) else (bif (inR iv order.length) then (bif (inR (offs iv 0) order.length) then (bif (decide (order.getD (offs iv 0).toNat 0 ≥ (↑l2.length : Int))) then some (.inr (0, false, 2, (T_assartref02_Layout.mk (yb.mk 0 0 0 0 0 0 0 0 0 0 0)), ([]), ([]))) else some (.inl (IntKind.i64.wrap (iv + 1)))) else none) else none)) else none) else none) else ((y0l c).bind fun y0 => ((y4a l2 order y0.1.C.Workers y0.1.C.CPUs y0.1.C.Pages y0.1.C.Stripes y0.1.C.Tries y0.1.C.Wait y0.1.C.Clock y0.1.C.Private y0.1.C.Cache y0.1.C.Bin y0.1.C.Batch (0, y0.2.1, y0.2.2)).bind fun z => some (.inr z))))
def y7x (c : yb) (l2 : List Ev) (order : List Int) (s : Int) : Option (Int × Bool × Int × T_assartref02_Layout × (List (List Int)) × (List Int)) :=
  loopO (fun s => y4h c l2 order s) s
def y2q (c : yb) (l2 : List Ev) (order : List Int) : Option (Int × Bool × Int × T_assartref02_Layout × (List (List Int)) × (List Int)) :=
  ((y06 c).bind fun y0 => (bif (!y0) then some (0, false, 2, (T_assartref02_Layout.mk (yb.mk 0 0 0 0 0 0 0 0 0 0 0)), ([]), ([])) else (y7x c l2 order 0)))
def y2k (c : yb) (l2 : List Ev) : Option Int :=
  ((y06 c).bind fun y0 => (bif (!y0) then some 2 else ((y2o c.Workers l2).bind fun y1 => (bif (!y1) then some 2 else ((y30 l2).bind fun y2 => ((y37 l2 y2).bind fun y3 => (bif (y3 != 0) then some y3 else ((y2q c l2 y2).bind fun y4 => (bif y4.2.1 then some y4.2.2.1 else some y4.2.2.1)))))))))
attribute [local irreducible] Loop ex exF contK roundK retK at_ bodyOf mkEnv exFW retW
theorem lpok_ref27_Run_L2 (c : yb) (l2 : List Ev) (order : List Int) (iv c2 : Int) (c3 c4 : Int) (c5 c6 : Int) (c7 c8 : Int) (c9 c10 : Int) (c11 c12 : Int) (w : List (List Int)) (w2 : List Int) (K : V → Heap → Prop) : So (y4a l2 order c2 c3 c4 c5 c6 c7 c8 c9 c10 c11 c12 (iv, w, w2)) (fun (x : Int × Bool × Int × T_assartref02_Layout × (List (List Int)) × (List Int)) => br x.2.1 (K (.tup [vi x.1, .ptr 2 0, vi x.2.2.1]) [.row 3 l2 true, .row 0 order true, .cells 0 (y05 x.2.2.2.1 ++ [.row 3, .row 4]), .row 6 x.2.2.2.2.1 false, .row 0 x.2.2.2.2.2 false]) (K (.tup [vi x.1, .ext (.pointer none), vi x.2.2.1]) [.row 3 l2 true, .row 0 order true])) → Loop (y1o y06 y0l y0h) (⟨63, 2⟩ : Cx) (at_ (bodyOf Try.f67) [1, 1, 1, 1, 0, 1, 0, 0]) (mkEnv [(1, .row 0), (2, .row 1), (10, .ptr 2 0), (11, vi iv)]) [.row 3 l2 true, .row 0 order true, .cells 0 [vi c2, vi c3, vi c4, vi c5, vi c6, vi c7, vi c8, vi c9, vi c10, vi c11, vi c12, .row 3, .row 4], .row 6 w false, .row 0 w2 false] (contK (y1o y06 y0l y0h) (⟨63, 2⟩ : Cx) (bodyOf Try.f67) [1, 1, 1, 1, 0, 1, 0] (retW (y1o y06 y0l y0h) wk_ref27_Run Try.f67 2 K)) := by
  refine loopK_So (fun (s_ : Int × (List (List Int)) × (List Int)) => (mkEnv [(1, .row 0), (2, .row 1), (10, .ptr 2 0), (11, vi s_.1)])) (fun (s_ : Int × (List (List Int)) × (List Int)) => [.row 3 l2 true, .row 0 order true, .cells 0 [vi c2, vi c3, vi c4, vi c5, vi c6, vi c7, vi c8, vi c9, vi c10, vi c11, vi c12, .row 3, .row 4], .row 6 (s_.2.1 : List (List Int)) false, .row 0 (s_.2.2 : List Int) false]) (fun (x : Int × Bool × Int × T_assartref02_Layout × (List (List Int)) × (List Int)) => br x.2.1 (K (.tup [vi x.1, .ptr 2 0, vi x.2.2.1]) [.row 3 l2 true, .row 0 order true, .cells 0 (y05 x.2.2.2.1 ++ [.row 3, .row 4]), .row 6 x.2.2.2.2.1 false, .row 0 x.2.2.2.2.2 false]) (K (.tup [vi x.1, .ext (.pointer none), vi x.2.2.1]) [.row 3 l2 true, .row 0 order true])) ?_ (iv, w, w2)
  intro s_ J1 h
  clear iv
  clear w
  clear w2
  obtain ⟨iv, w, w2⟩ := s_
  refine Eq.mpr (yip y06 y0l y0h c l2 order iv c2 c3 c4 c5 c6 c7 c8 c9 c10 c11 c12 w w2 K J1) ?_
  have h : So (y4q l2 order c2 c3 c4 c5 c6 c7 c8 c9 c10 c11 c12 iv w w2) _ := h
  unfold y4q at h
  revert h
  exact br_So (req_So (req_So (req_So (req_So (bind_So fun y0 => br_So (fun h => h) (fun h => h)))))) (fun h => h)
theorem lpok_ref27_Run_L1 (c : yb) (l2 : List Ev) (order : List Int) (iv : Int) (K : V → Heap → Prop) : So (y7x c l2 order iv) (fun (x : Int × Bool × Int × T_assartref02_Layout × (List (List Int)) × (List Int)) => br x.2.1 (K (.tup [vi x.1, .ptr 2 0, vi x.2.2.1]) [.row 3 l2 true, .row 0 order true, .cells 0 (y05 x.2.2.2.1 ++ [.row 3, .row 4]), .row 6 x.2.2.2.2.1 false, .row 0 x.2.2.2.2.2 false]) (K (.tup [vi x.1, .ext (.pointer none), vi x.2.2.1]) [.row 3 l2 true, .row 0 order true])) → Loop (y1o y06 y0l y0h) (⟨63, 2⟩ : Cx) (at_ (bodyOf Try.f67) [1, 1, 0, 1, 0, 0]) (mkEnv [(1, .row 0), (2, .row 1), (3, .ptr 2 0), (9, vi iv)]) [.row 3 l2 true, .row 0 order true, .cells 23 (yl c)] (contK (y1o y06 y0l y0h) (⟨63, 2⟩ : Cx) (bodyOf Try.f67) [1, 1, 0, 1, 0] (retW (y1o y06 y0l y0h) wk_ref27_Run Try.f67 2 K)) := by
  refine loopK_So (fun (s_ : Int) => (mkEnv [(1, .row 0), (2, .row 1), (3, .ptr 2 0), (9, vi s_)])) (fun (s_ : Int) => [.row 3 l2 true, .row 0 order true, .cells 23 (yl c)]) (fun (x : Int × Bool × Int × T_assartref02_Layout × (List (List Int)) × (List Int)) => br x.2.1 (K (.tup [vi x.1, .ptr 2 0, vi x.2.2.1]) [.row 3 l2 true, .row 0 order true, .cells 0 (y05 x.2.2.2.1 ++ [.row 3, .row 4]), .row 6 x.2.2.2.2.1 false, .row 0 x.2.2.2.2.2 false]) (K (.tup [vi x.1, .ext (.pointer none), vi x.2.2.1]) [.row 3 l2 true, .row 0 order true])) ?_ iv
  intro s_ J1 h
  clear iv
  revert h; revert s_; intro iv h
  refine Eq.mpr (yhh y06 y0l y0h c l2 order iv K J1) ?_
  have h : So (y4h c l2 order iv) _ := h
  unfold y4h at h
  revert h
  exact br_So (req_So (req_So (br_So (fun h => h) (req_So (req_So (br_So (fun h => h) (fun h => h))))))) (bind_So fun y0 => mapK_So (lpok_ref27_Run_L2 c l2 order 0 y0.1.C.Workers y0.1.C.CPUs y0.1.C.Pages y0.1.C.Stripes y0.1.C.Tries y0.1.C.Wait y0.1.C.Clock y0.1.C.Private y0.1.C.Cache y0.1.C.Bin y0.1.C.Batch y0.2.1 y0.2.2 K))
theorem yix : SpecOK Try.prog elTT 67 (y9t y2q) := by
  refine spec_of_exFW (cfg := (y1o y06 y0l y0h)) (yn rfl rfl rfl) (yj ye3 (yj yjy (yj yik yp))) (pre := []) (wk := wk_ref27_Run) (fn := Try.f67) (by kernel_rfl) (by kernel_rfl) (by kernel_rfl) ?_
  intro args H K h
  change y8d y2q args H K at h
  unfold y8d at h
  repeat first | (obtain ⟨_, h⟩ := h) | replace h := Des.el h
  subst_vars
  refine Eq.mpr (yfh y06 y0l y0h _ _ _ K) ?_
  unfold y2q at h
  revert h
  exact bind_So fun y0 => br_So (fun h => h) (lpok_ref27_Run_L1 _ _ _ _ K)
theorem yim : SpecOK Try.prog elTT 30 (yec y2k) := by
  refine spec_of_exF (cfg := (ycb y06 y2o y30 y37 y2q)) (yn rfl rfl rfl) (yj ye3 (yj ygf (yj ygk (yj yig (yj yix yp))))) (fn := Try.f30) (by kernel_rfl) (by kernel_rfl) (by kernel_rfl) ?_
  intro args H K h
  change y72 y2k args H K at h
  unfold y72 at h
  repeat first | (obtain ⟨_, h⟩ := h) | replace h := Des.el h
  subst_vars
  refine Eq.mpr (ygc y06 y2o y30 y37 y2q _ _ K) ?_
  unfold y2k at h
  revert h
  exact bind_So fun y0 => br_So (fun h => h) (bind_So fun y1 => br_So (fun h => h) (bind_So fun y2 => bind_So fun y3 => br_So (fun h => h) (bind_So fun y4 => br_So (fun h => h) (fun h => h))))
end Go.Rx
end

section
namespace Go.Rx
open Go.Proofs
open E26
theorem between_eq (n a b : Int) : yz n a b = some (decide (a ≤ n ∧ n ≤ b)) := by
  unfold yz
  by_cases h : a ≤ n
  · rw [decide_eq_true (show n ≥ a from h)]
    by_cases h2 : n ≤ b
    · rw [decide_eq_true h2, decide_eq_true ⟨h, h2⟩]; rfl
    · rw [decide_eq_false h2, decide_eq_false (show ¬ (a ≤ n ∧ n ≤ b) from fun h => h2 h.2)]; rfl
  · rw [decide_eq_false (show ¬ n ≥ a from h), decide_eq_false (show ¬ (a ≤ n ∧ n ≤ b) from fun h' => h h'.1)]; rfl
theorem rRightC_eq (c : yb) : y06 c = some (decide (RightC c)) := by
  have e : decide (RightC c) = (decide (1 ≤ c.Workers ∧ c.Workers ≤ 64) && (decide (1 ≤ c.CPUs ∧ c.CPUs ≤ 8) && (decide (1 ≤ c.Pages ∧ c.Pages ≤ 256) && (decide (1 ≤ c.Stripes ∧ c.Stripes ≤ 64) && (decide (0 ≤ c.Tries ∧ c.Tries ≤ 16) && (decide (0 ≤ c.Wait ∧ c.Wait ≤ 64) &&
    (decide (1 ≤ c.Clock ∧ c.Clock ≤ 1099511627776) && (decide (1 ≤ c.Private ∧ c.Private ≤ 8) && (decide (0 ≤ c.Cache ∧ c.Cache ≤ 8) && (decide (0 ≤ c.Bin ∧ c.Bin ≤ 16) && decide (1 ≤ c.Batch ∧ c.Batch ≤ 8))))))))))) := by
    rw [Bool.eq_iff_iff]
    simp only [Bool.and_eq_true, decide_eq_true_eq]
    exact ⟨fun ⟨a, b, d, e, f, g, h, i, j, k, l⟩ => ⟨a, b, d, e, f, g, h, i, j, k, l⟩, fun ⟨a, b, d, e, f, g, h, i, j, k, l⟩ => ⟨a, b, d, e, f, g, h, i, j, k, l⟩⟩
  rw [e]
  unfold y06
  simp only [between_eq, Option.bind_some]
  generalize decide (1 ≤ c.Workers ∧ c.Workers ≤ 64) = b1
  generalize decide (1 ≤ c.CPUs ∧ c.CPUs ≤ 8) = b2
  generalize decide (1 ≤ c.Pages ∧ c.Pages ≤ 256) = b3
  generalize decide (1 ≤ c.Stripes ∧ c.Stripes ≤ 64) = b4
  generalize decide (0 ≤ c.Tries ∧ c.Tries ≤ 16) = b5
  generalize decide (0 ≤ c.Wait ∧ c.Wait ≤ 64) = b6
  generalize decide (1 ≤ c.Clock ∧ c.Clock ≤ 1099511627776) = b7
  generalize decide (1 ≤ c.Private ∧ c.Private ≤ 8) = b8
  generalize decide (0 ≤ c.Cache ∧ c.Cache ≤ 8) = b9
  generalize decide (0 ≤ c.Bin ∧ c.Bin ≤ 16) = b10
  generalize decide (1 ≤ c.Batch ∧ c.Batch ≤ 8) = b11
  cases b1 <;> cases b2 <;> (try cases b3) <;> (try cases b4) <;> (try cases b5) <;> (try cases b6) <;> (try cases b7) <;> first | rfl | (cases b8 <;> first | rfl | (cases b9 <;> first | rfl | (cases b10 <;> rfl)))
theorem NewE_eq (c : yb) : y0t c = some (if RightC c then (true, layC c, List.replicate (c.Pages * 32).toNat 0, []) else (false, ⟨⟨0,0,0,0,0,0,0,0,0,0,0⟩,0,0,0,0,0,0,0,0,0,0,0,0⟩, [], [])) := by
  unfold y0t
  rw [New_eq, Option.bind_some]
  by_cases h : RightC c
  · rw [if_pos h, if_pos h]; rfl
  · rw [if_neg h, if_neg h]; rfl
theorem there_all (many : Int) (o : List Int) (ho : o.length ≤ 100000) (h : ∀ x ∈ o, 0 ≤ x ∧ x < many) : y1l many o = some true := by
  obtain ⟨r, h1, h2⟩ := scanS (step := fun s => y40 many o (o.length : Int) s) (l := o) (fun A => (A.length : Int)) (fun _ => True) (fun r => r = true)
    (fun A b C e _ => by
      left
      refine ⟨?_, trivial⟩
      have hlt : decide ((A.length : Int) < (o.length : Int)) = true := by rw [e]; exact mid_lt A b C
      have hl : A.length < o.length := by rw [e]; simp
      have hi : inR (A.length : Int) o.length = true := inR_nat hl
      have hg : o.getD A.length 0 = b := by rw [e]; exact mid_get A b C _
      have hb := h b (by rw [e]; simp)
      simp only [y40, hlt, cond_true, offs0, hi, Int.toNat_natCast, hg]
      rw [decide_eq_false (by omega), decide_eq_false (by omega), cond_false, cond_false, wrap_succ (by omega)]; simp)
    (fun _ => ⟨_, by
      simp only [y40]
      rw [decide_eq_false (by omega), cond_false], rfl⟩)
    trivial
  unfold y1l y93
  have h1 : loopO (fun s => y40 many o (o.length : Int) s) 0 = some r := h1
  rw [h1, h2]
def evC (e : Ev) : yc := ⟨e.CKind, e.CAddr, e.CSize, e.CAlign, e.CValue⟩
def evR (e : Ev) : T_api_Reply := ⟨e.RErr, e.RAddr, e.RSize, e.RValue, ⟨e.SBlocks, e.SAsked, e.SWords, e.SKept, e.SOpen, e.SMapped, e.SUsed⟩⟩
theorem run_both {d : yb} (hR : RightC d) (l : List Ev) (hb : ∀ e ∈ l, CRB (evC e) (evR e)) (o : List Int) (ho : o.length ≤ 1000) (hin : ∀ x ∈ o, 0 ≤ x ∧ x < (l.length : Int)) :
    ∃ n e y n' y', y1b d l o = some (n, true, e, y) ∧ y2q d l o = some (n', true, e, y') := by
  have hL := layC_ok hR
  have hbg := hL.big; have h11 := hL.a11; have hpg := hL.pages
  have key : ∀ (R A : List Int) (its B : List (List Int)) (ws : List Int), o = A ++ R → SOK (layC d) its → B.Perm its → its.length ≤ A.length → (ws.length : Int) = (layC d).at_11 - (layC d).at_10 →
      ∃ n e y n' y', y3u l o (o.length : Int) (layC d).c.Workers (layC d).c.CPUs (layC d).c.Pages (layC d).c.Stripes (layC d).c.Tries (layC d).c.Wait (layC d).c.Clock (layC d).c.Private (layC d).c.Cache (layC d).c.Bin (layC d).c.Batch
        (layC d).at_0 (layC d).at_1 (layC d).at_2 (layC d).at_3 (layC d).at_4 (layC d).at_5 (layC d).at_6 (layC d).at_7 (layC d).at_8 (layC d).at_9 (layC d).at_10 (layC d).at_11 ((A.length : Int), ws, its) = some (n, true, e, y) ∧
        y4a l o d.Workers d.CPUs d.Pages d.Stripes d.Tries d.Wait d.Clock d.Private d.Cache d.Bin d.Batch ((A.length : Int), B, ws) = some (n', true, e, y') := by
    intro R
    induction R with
    | nil =>
      intro A its B ws e hs hp hn hw
      rw [List.append_nil] at e
      have hne : decide ((A.length : Int) < (o.length : Int)) = false := by rw [e]; simp
      refine ⟨(o.length : Int), 0, (layC d, ws, its), (o.length : Int), (⟨d⟩, B, ws), ?_, ?_⟩
      · unfold y3u
        refine loopO_end ?_
        simp only [y4r, hne, cond_false]
      · unfold y4a
        refine loopO_end ?_
        simp only [y4q, hne, cond_false]
    | cons x R ih =>
      intro A its B ws e hs hp hn hw
      have hl : A.length < o.length := by rw [e]; simp
      have hlt : decide ((A.length : Int) < (o.length : Int)) = true := decide_eq_true (by omega)
      have hi : inR (A.length : Int) o.length = true := inR_nat hl
      have hg : o.getD A.length 0 = x := by rw [e]; exact mid_get A x R _
      have hx := hin x (by rw [e]; simp)
      have hxi : inR x l.length = true := inR_int hx.1 hx.2
      have hm : l.getD x.toNat dEv ∈ l := by
        have hxl : x.toNat < l.length := by omega
        have : l.getD x.toNat dEv = l[x.toNat] := by simp [List.getD, hxl]
        rw [this]; exact List.getElem_mem _
      have hcrb := hb _ hm
      obtain ⟨B', r1, r2⟩ := rStep_eq (r := evR (l.getD x.toNat dEv)) (c := evC (l.getD x.toNat dEv)) hR hs hp (by omega) hw hcrb
      have hst := Step_eq hs (by omega) hw hcrb
      have hok := stepR_ok (ws := ws) (c := evC (l.getD x.toNat dEv)) (r := evR (l.getD x.toNat dEv)) hs
      generalize stepR (layC d) its ws (evC (l.getD x.toNat dEv)) (evR (l.getD x.toNat dEv)) = st at *
      have s1 : y4r l o (o.length : Int) (layC d).c.Workers (layC d).c.CPUs (layC d).c.Pages (layC d).c.Stripes (layC d).c.Tries (layC d).c.Wait (layC d).c.Clock (layC d).c.Private (layC d).c.Cache (layC d).c.Bin (layC d).c.Batch
          (layC d).at_0 (layC d).at_1 (layC d).at_2 (layC d).at_3 (layC d).at_4 (layC d).at_5 (layC d).at_6 (layC d).at_7 (layC d).at_8 (layC d).at_9 (layC d).at_10 (layC d).at_11 (A.length : Int) ws its =
          bif !st.1 then some (.inr ((A.length : Int), true, 18, layC d, st.2.2, st.2.1)) else some (.inl (((A ++ [x]).length : Int), st.2.2, st.2.1)) := by
        simp only [y4r, hlt, cond_true, offs0, hi, Int.toNat_natCast, hg, hxi]
        rw [etaL]
        change (y1c (evC (l.getD x.toNat dEv)) (evR (l.getD x.toNat dEv)) (layC d) ws its).bind _ = _
        rw [hst, Option.bind_some, wrap_succ (by omega)]
        simp
      have s2 : y4q l o d.Workers d.CPUs d.Pages d.Stripes d.Tries d.Wait d.Clock d.Private d.Cache d.Bin d.Batch (A.length : Int) B ws =
          bif !st.1 then some (.inr ((A.length : Int), true, 18, ⟨d⟩, B', st.2.2)) else some (.inl (((A ++ [x]).length : Int), B', st.2.2)) := by
        simp only [y4q, hlt, cond_true, offs0, hi, Int.toNat_natCast, hg, hxi]
        rw [etaC]
        change (y0h (evC (l.getD x.toNat dEv)) (evR (l.getD x.toNat dEv)) ⟨d⟩ B ws).bind _ = _
        rw [r1, Option.bind_some, wrap_succ (by omega)]
        simp
      cases hm1 : st.1 with
      | false =>
        rw [hm1] at s1 s2
        refine ⟨(A.length : Int), 18, (layC d, st.2.2, st.2.1), (A.length : Int), (⟨d⟩, B', st.2.2), ?_, ?_⟩
        · unfold y3u; exact loopO_end s1
        · unfold y4a; exact loopO_end s2
      | true =>
        rw [hm1] at s1 s2
        obtain ⟨n, e', y, n', y', g1, g2⟩ := ih (A ++ [x]) st.2.1 B' st.2.2 (by rw [e]; simp) hok.1 r2 (by have := hok.2.2.1; simp; omega) (by rw [hok.2.1]; exact hw)
        refine ⟨n, e', y, n', y', ?_, ?_⟩
        · unfold y3u at g1 ⊢; exact (loopO_go s1).trans g1
        · unfold y4a at g2 ⊢; exact (loopO_go s2).trans g2
  obtain ⟨n, e, y, n', y', g1, g2⟩ := key o [] [] [] (List.replicate (d.Pages * 32).toNat 0) rfl (nil_SOK hR) (List.Perm.refl _) (by simp) (rep_len hR)
  refine ⟨n, e, y, n', y', ?_, ?_⟩
  · unfold y1b
    rw [NewE_eq, if_pos hR, Option.bind_some, cond_true, there_all _ _ (by omega) hin, Option.bind_some]
    exact g1
  · unfold y2q
    rw [rRightC_eq, decide_eq_true hR, Option.bind_some]
    have hh := scanS (step := fun s => y4h d l o s) (l := o) (fun A => (A.length : Int)) (fun _ => True) (fun r => r = (n', true, e, y'))
      (fun A b C e _ => by
        left
        refine ⟨?_, trivial⟩
        have hlt : decide ((A.length : Int) < (o.length : Int)) = true := by rw [e]; exact mid_lt A b C
        have hl : A.length < o.length := by rw [e]; simp
        have hi : inR (A.length : Int) o.length = true := inR_nat hl
        have hg : o.getD A.length 0 = b := by rw [e]; exact mid_get A b C _
        have hb := hin b (by rw [e]; simp)
        simp only [y4h, hlt, cond_true, offs0, hi, Int.toNat_natCast, hg]
        rw [decide_eq_false (by omega), decide_eq_false (by omega), cond_false, cond_false, wrap_succ (by omega)]; simp)
      (fun _ => ⟨_, by
        simp only [y4h]
        rw [decide_eq_false (by omega), cond_false, rNew_eq hR, Option.bind_some]
        dsimp only
        rw [show y4a l o d.Workers d.CPUs d.Pages d.Stripes d.Tries d.Wait d.Clock d.Private d.Cache d.Bin d.Batch (0, [], List.replicate (d.Pages * 32).toNat 0) = some (n', true, e, y') from g2]; rfl, rfl⟩)
      trivial
    obtain ⟨r, h1, h2⟩ := hh
    have h1 : loopO (fun s => y4h d l o s) 0 = some r := h1
    unfold y7x
    rw [Bool.not_true, cond_false, h1, h2]
end Go.Rx
end

noncomputable section
namespace Go.Rx
open Go.Proofs
set_option maxRecDepth 100000
set_option maxHeartbeats 4000000
def y6e (m_ : Option Bool) (args : List V) (H : Heap) (K : V → Heap → Prop) : Prop :=
  aN args <| aN H <| So (m_ ) fun x => K (vb x) []
def ya6 (m_ : Option Bool) : Spec := ⟨y6e m_, (true : Bool)⟩
def ya2 (y2u : Y30) (y1q : Y28) (ym : Y6) (y0q : Y11) : Cfg := { cfgB with
  sigs := (sigC 9 (ydi y2u) (sigC 31 (y7k y1q) (sigC 23 (y2a ym) (sigC 29 (y90 y0q) sigN)))),
  plan := fun r => match r with | 6 => some (List.range 16, 1) | _ => none }
theorem yjf (y2u : Y30) (y1q : Y28) (ym : Y6) (y0q : Y11) (K : V → Heap → Prop) : (exF (ya2 y2u y1q ym y0q) Try.f27 [] [] K) = (
    So (y2u (yb.mk 0 0 0 0 0 0 0 0 0 0 0)) (fun (y0 : yb) => (So (y1q y0) (fun (y1 : ye × Int) => (So (ym y1.1) (fun (y2 : Int) => (br (y1.2 == 0) (So (y0q y0 [Ev.mk 0 1 0 3 0 0 0 y2 4 0 0 0 0 0 0 0 0 1 2 1 true true true, Ev.mk 0 1 0 3 0 0 0 y2 4 0 0 0 0 0 0 0 0 3 4 2 true true true]) (fun (y3 : Int) => (br (y3 == 18) (So (y0q y0 (List.take (Int.toNat 1) (List.drop 0 [Ev.mk 0 1 0 3 0 0 0 y2 4 0 0 0 0 0 0 0 0 1 2 1 true true true, Ev.mk 0 1 0 3 0 0 0 y2 4 0 0 0 0 0 0 0 0 3 4 2 true true true]))) (fun (y4 : Int) => (K (vb (y4 == 0)) []))) (K (vb false) [])))) (K (vb false) [])))))))) := by kernel_rfl
def y25  : Option Bool :=
  ((y2u (yb.mk 0 0 0 0 0 0 0 0 0 0 0)).bind fun y0 => ((y1q y0).bind fun y1 => ((ym y1.1).bind fun y2 => (bif (y1.2 == 0) then ((y0q y0 [Ev.mk 0 1 0 3 0 0 0 y2 4 0 0 0 0 0 0 0 0 1 2 1 true true true, Ev.mk 0 1 0 3 0 0 0 y2 4 0 0 0 0 0 0 0 0 3 4 2 true true true]).bind fun y3 => (bif (y3 == 18) then ((y0q y0 (List.take (Int.toNat 1) (List.drop 0 [Ev.mk 0 1 0 3 0 0 0 y2 4 0 0 0 0 0 0 0 0 1 2 1 true true true, Ev.mk 0 1 0 3 0 0 0 y2 4 0 0 0 0 0 0 0 0 3 4 2 true true true]))).bind fun y4 => some (y4 == 0)) else some false)) else some false))))
attribute [local irreducible] Loop ex exF contK roundK retK at_ bodyOf mkEnv
theorem yjh : SpecOK Try.prog elTT 27 (ya6 y25) := by
  refine spec_of_exF (cfg := (ya2 y2u y1q ym y0q)) (yn rfl rfl rfl) (yj yhk (yj yea (yj y3x (yj ybd yp)))) (fn := Try.f27) (by kernel_rfl) (by kernel_rfl) (by kernel_rfl) ?_
  intro args H K h
  change y6e y25 args H K at h
  unfold y6e at h
  repeat first | (obtain ⟨_, h⟩ := h) | replace h := Des.el h
  subst_vars
  refine Eq.mpr (yjf y2u y1q ym y0q  K) ?_
  unfold y25 at h
  revert h
  exact bind_So fun y0 => bind_So fun y1 => bind_So fun y2 => br_So (bind_So fun y3 => br_So (bind_So fun y4 => fun h => h) (fun h => h)) (fun h => h)
end Go.Rx
end

noncomputable section
namespace Go.Rx
open Go.Proofs
set_option maxRecDepth 100000
set_option maxHeartbeats 4000000
def y8s (m_ : yb → (List Ev) → Option Bool) (args : List V) (H : Heap) (K : V → Heap → Prop) : Prop :=
  aC args fun a0 r => aC r fun a1 r => aN r <| aAgg a0 fun c0 => y26 c0 fun c => aRow 0 a1 <| aC H fun b0 r => aN r <| bRow 3 true b0 fun (l2 : List Ev) => So (m_ c l2) fun x => K (vb x) [.row 3 l2 true]
def yhp (m_ : yb → (List Ev) → Option Bool) : Spec := ⟨y8s m_, (true : Bool)⟩
def yaj (y25 : Option Bool) (y1b : Y3) (y1n : Y34) (y0q y2k : Y11) : Cfg := { cfgB with
  sigs := (sigC 27 (ya6 y25) (sigC 28 (ybv y1b) (sigC 25 (y6v y1n) (sigC 29 (y90 y0q) (sigC 30 (yec y2k) sigN))))),
  plan := fun r => match r with | 6 => some ([0, 1, 2, 3, 4, 5, 6, 7, 8, 9, 10, 11, 12, 14, 15, 13, 16, 17, 18, 19, 20, 21, 22], 0) | _ => none }
theorem yjs (y25 : Option Bool) (y1b : Y3) (y1n : Y34) (y0q y2k : Y11) (c : yb) (l2 : List Ev) (K : V → Heap → Prop) : (exF (yaj y25 y1b y1n y0q y2k) Try.f7 [.agg (yl c), .row 0] [.row 3 l2 true] K) = (
    br (decide ((↑l2.length : Int) > 40)) (So y25 (fun (y0 : Bool) => (K (vb y0) [.row 3 l2 true]))) (So (y1b c l2 []) (fun (y1 : Int × Bool × Int × ye × List Int × List (List Int)) => (br y1.2.1 (So (y1n c) (fun (y2 : Int) => (br (y2 != 0) (br (y1.1 == 0) (K (vb false) [.row 3 l2 true]) (K (vb false) [.row 3 l2 true])) (br (y1.1 == 0) (br (y1.2.2.1 == 0) (So (y0q c l2) (fun (y3 : Int) => (So (y2k c l2) (fun (y4 : Int) => (br (y3 == y4) (So y25 (fun (y5 : Bool) => (K (vb y5) [.row 3 l2 true]))) (K (vb false) [.row 3 l2 true])))))) (K (vb false) [.row 3 l2 true])) (K (vb false) [.row 3 l2 true]))))) (So (y1n c) (fun (y6 : Int) => (br (y6 != 0) (br (y1.1 == 0) (br (y1.2.2.1 == 2) (So (y0q c l2) (fun (y7 : Int) => (br (y7 == 2) (So y25 (fun (y8 : Bool) => (K (vb y8) [.row 3 l2 true]))) (K (vb false) [.row 3 l2 true])))) (K (vb false) [.row 3 l2 true])) (K (vb false) [.row 3 l2 true])) (br (y1.1 == 0) (K (vb false) [.row 3 l2 true]) (K (vb false) [.row 3 l2 true]))))))))) := by kernel_rfl
def y4u (c : yb) (l2 : List Ev) : Option Bool :=
  (bif (decide ((↑l2.length : Int) > 40)) then (y25.bind fun y0 => some y0) else ((y1b c l2 []).bind fun y1 => (bif y1.2.1 then ((y1n c).bind fun y2 => (bif (y2 != 0) then (bif (y1.1 == 0) then some false else some false) else (bif (y1.1 == 0) then (bif (y1.2.2.1 == 0) then ((y0q c l2).bind fun y3 => ((y2k c l2).bind fun y4 => (bif (y3 == y4) then (y25.bind fun y5 => some y5) else some false))) else some false) else some false))) else ((y1n c).bind fun y6 => (bif (y6 != 0) then (bif (y1.1 == 0) then (bif (y1.2.2.1 == 2) then ((y0q c l2).bind fun y7 => (bif (y7 == 2) then (y25.bind fun y8 => some y8) else some false)) else some false) else some false) else (bif (y1.1 == 0) then some false else some false))))))
attribute [local irreducible] Loop ex exF contK roundK retK at_ bodyOf mkEnv
theorem yht : SpecOK Try.prog elTT 7 (yhp y4u) := by
  refine spec_of_exF (cfg := (yaj y25 y1b y1n y0q y2k)) (yn rfl rfl rfl) (yj yjh (yj yjm (yj ybu (yj ybd (yj yim yp))))) (fn := Try.f7) (by kernel_rfl) (by kernel_rfl) (by kernel_rfl) ?_
  intro args H K h
  change y8s y4u args H K at h
  unfold y8s at h
  repeat first | (obtain ⟨_, h⟩ := h) | replace h := Des.el h
  subst_vars
  refine Eq.mpr (yjs y25 y1b y1n y0q y2k _ _ K) ?_
  unfold y4u at h
  revert h
  exact br_So (bind_So fun y0 => fun h => h) (bind_So fun y1 => br_So (bind_So fun y2 => br_So (br_So (fun h => h) (fun h => h)) (br_So (br_So (bind_So fun y3 => bind_So fun y4 => br_So (bind_So fun y5 => fun h => h) (fun h => h)) (fun h => h)) (fun h => h))) (bind_So fun y6 => br_So (br_So (br_So (bind_So fun y7 => br_So (bind_So fun y8 => fun h => h) (fun h => h)) (fun h => h)) (fun h => h)) (br_So (fun h => h) (fun h => h))))
end Go.Rx
end

section
namespace Go.Rx
open Go.Proofs
open E26
theorem sort_in (l : List Ev) : ∀ x ∈ sortM l, 0 ≤ x ∧ x < (l.length : Int) := fun x hx => by
  have := sortTo_mem l l.length x hx
  exact ⟨this.1, this.2.1⟩
theorem sort_len (l : List Ev) : (sortM l).length ≤ l.length := sortTo_len l l.length
theorem check_right {c : yb} (hR : RightC c) (l : List Ev) (hl : l.length ≤ 1000) (hb : ∀ e ∈ l, CRB (evC e) (evR e)) : ∃ e, y0q c l = some e ∧ y2k c l = some e := by
  have hsl := sort_len l
  have hev : y23 c.Workers l = some (E25.rightB c.Workers l) := by unfold y23; rw [if_pos (by omega)]
  unfold y0q y2k
  rw [NewE_eq, if_pos hR, Option.bind_some, rRightC_eq, decide_eq_true hR, Option.bind_some, hev, Option.bind_some, rRight_eq _ _ (by omega), Option.bind_some]
  simp only [cond_true, Bool.not_true, cond_false]
  cases E25.rightB c.Workers l with
  | false => exact ⟨2, rfl, rfl⟩
  | true =>
    simp only [Bool.not_true, cond_false]
    rw [sort_eq l (by omega), Option.bind_some, rsort_eq l (by omega), Option.bind_some, check_eq l _ (by omega) (by omega), Option.bind_some, rcheck_eq l _ (by omega) (by omega), Option.bind_some, ← check_same]
    cases hc : checkM l (sortM l) != 0 with
    | true => exact ⟨_, rfl, rfl⟩
    | false =>
      simp only [cond_false]
      obtain ⟨n, e, y, n', y', g1, g2⟩ := run_both hR l hb (sortM l) (by omega) (sort_in l)
      rw [g1, Option.bind_some, g2, Option.bind_some]
      exact ⟨e, rfl, rfl⟩
theorem check_wrong {c : yb} (hR : ¬ RightC c) (l : List Ev) : y0q c l = some 2 := by
  unfold y0q
  rw [NewE_eq, if_neg hR]; rfl
def ev1 (u : Int) : Ev := Ev.mk 0 1 0 3 0 0 0 u 4 0 0 0 0 0 0 0 0 1 2 1 true true true
def ev2 (u : Int) : Ev := Ev.mk 0 1 0 3 0 0 0 u 4 0 0 0 0 0 0 0 0 3 4 2 true true true
theorem ev_right {w : Int} (hw : 1 ≤ w) (u : Int) : E25.rightB w [ev1 u, ev2 u] = true := by
  have o1 : E25.oneM w (ev1 u) = true := by unfold E25.oneM; simp [ev1]; omega
  have o2 : E25.oneM w (ev2 u) = true := by unfold E25.oneM; simp [ev2]; omega
  refine E25.rightB_iff.2 fun i hi => ?_
  have hi : i < 2 := hi
  rcases (show i = 0 ∨ i = 1 by omega) with rfl | rfl
  · exact E25.okAt_iff.2 ⟨o1, .inl rfl, fun k hk => by omega⟩
  · refine E25.okAt_iff.2 ⟨o2, .inr (by show (1 : Int) < 3; omega), fun k hk _ => ?_⟩
    have : k = 0 := by omega
    subst this; rfl
theorem ev_right1 {w : Int} (hw : 1 ≤ w) (u : Int) : E25.rightB w [ev1 u] = true := by
  have o1 : E25.oneM w (ev1 u) = true := by unfold E25.oneM; simp [ev1]; omega
  refine E25.rightB_iff.2 fun i hi => ?_
  have hi : i < 1 := hi
  have : i = 0 := by omega
  subst this
  exact E25.okAt_iff.2 ⟨o1, .inl rfl, fun k hk => by omega⟩
theorem lives27_ok : y25 = some true := by
  obtain ⟨d, h1, h2⟩ := Small20 ⟨0, 0, 0, 0, 0, 0, 0, 0, 0, 0, 0⟩
  have hL := layC_ok h2
  have hb := hL.big; have h11 := hL.a11; have hp := hL.pages
  have hwk := h2.workers
  unfold y25
  rw [h1, Option.bind_some, Of_eq, if_pos h2, Option.bind_some, User_eq, Option.bind_some]
  simp only
  generalize hu : (layC d).at_10 = u at *
  change (bif (0 : Int) == 0 then (y0q d [ev1 u, ev2 u]).bind (fun y3 => bif y3 == 18 then (y0q d [ev1 u]).bind (fun y4 => some (y4 == 0)) else some false) else some false) = some true
  have hw := rep_len h2
  have hcrb : CRB ⟨1, 0, 3, 0, 0⟩ ⟨0, u, 4, 0, ⟨0, 0, 0, 0, 0, 0, 0⟩⟩ := ⟨by simp, by simp, by simp [statB]⟩
  have hrnd : rndI 3 1 = 4 := rfl
  have hask : askI ⟨1, 0, 3, 0, 0⟩ = 0 := rfl
  have e8 : eqR ⟨0, u, 4, 0, ⟨0, 0, 0, 0, 0, 0, 0⟩⟩ 8 0 0 0 = false := rfl
  have e6 : eqR ⟨0, u, 4, 0, ⟨0, 0, 0, 0, 0, 0, 0⟩⟩ 6 0 0 0 = false := rfl
  have st : ∀ its ws, stepR (layC d) its ws ⟨1, 0, 3, 0, 0⟩ ⟨0, u, 4, 0, ⟨0, 0, 0, 0, 0, 0, 0⟩⟩ = bif !fitB (layC d) its ⟨1, 0, 3, 0, 0⟩ ⟨0, u, 4, 0, ⟨0, 0, 0, 0, 0, 0, 0⟩⟩ then (false, its, ws) else (true, putL its [u, 3, 4], ws) := by
    intro its ws
    unfold stepR freshR
    rw [e8, e6, hask]; rfl
  have f1 : fitB (layC d) [] ⟨1, 0, 3, 0, 0⟩ ⟨0, u, 4, 0, ⟨0, 0, 0, 0, 0, 0, 0⟩⟩ = true := by
    unfold fitB
    rw [show alI ⟨1, 0, 3, 0, 0⟩ = 1 from rfl, show (⟨1, 0, 3, 0, 0⟩ : yc).Size = 3 from rfl, hrnd, hu]
    simp only
    rw [decide_eq_true (show u ≤ u ∧ u < (layC d).at_11 by omega), decide_eq_true (show (4 : Int) ≤ (layC d).at_11 - u by omega), Int.tmod_one]
    simp [eqR, freeB]
  have f2 : fitB (layC d) [[u, 3, 4]] ⟨1, 0, 3, 0, 0⟩ ⟨0, u, 4, 0, ⟨0, 0, 0, 0, 0, 0, 0⟩⟩ = false := by
    unfold fitB
    rw [show alI ⟨1, 0, 3, 0, 0⟩ = 1 from rfl, show (⟨1, 0, 3, 0, 0⟩ : yc).Size = 3 from rfl, hrnd]
    have : freeB [[u, 3, 4]] u (4 : Int).toNat = false := by
      refine freeB_false (i := 0) (by decide) ?_
      have hh : hasW [u, 3, 4] u := by
        show u ≤ _ ∧ _ < u + 4; omega
      simp [hh]
    simp only
    rw [this]; simp
  have s0 := nil_SOK h2
  have s1 : SOK (layC d) [[u, 3, 4]] := by
    refine ⟨hL, fun x hx => ?_, List.pairwise_singleton _ _⟩
    simp at hx; subst hx
    exact ⟨rfl, by show _ ≤ u; omega, by show (1 : Int) ≤ 4; omega, by show u + 4 ≤ _; omega, by show (0 : Int) ≤ 3 ∧ (3 : Int) ≤ 4; omega⟩
  have q1 := Step_eq s0 (by simp) hw hcrb
  rw [st, f1] at q1
  have q2 := Step_eq s1 (by simp) hw hcrb
  rw [st, f2] at q2
  generalize hws : List.replicate (d.Pages * 32).toNat (0 : Int) = ws at *
  have run1 : ∃ y, y1b d [ev1 u] [0] = some (1, true, 0, y) := by
    unfold y1b
    rw [NewE_eq, if_pos h2, Option.bind_some, cond_true, there_all _ _ (by simp) (fun x hx => by simp at hx; subst hx; simp), Option.bind_some]
    dsimp only
    rw [hws]
    unfold y3u
    refine ⟨(layC d, ws, [[u, 3, 4]]), (loopO_go (s' := (1, ws, [[u, 3, 4]])) ?_).trans (loopO_end ?_)⟩
    · change (y1c ⟨1, 0, 3, 0, 0⟩ ⟨0, u, 4, 0, ⟨0, 0, 0, 0, 0, 0, 0⟩⟩ (layC d) ws []).bind _ = _
      rw [q1]; rfl
    · rfl
  have run2 : ∃ n y, y1b d [ev1 u, ev2 u] [0, 1] = some (n, true, 18, y) := by
    unfold y1b
    rw [NewE_eq, if_pos h2, Option.bind_some, cond_true, there_all _ _ (by simp) (fun x hx => by simp at hx; rcases hx with rfl | rfl <;> simp), Option.bind_some]
    dsimp only
    rw [hws]
    unfold y3u
    refine ⟨1, (layC d, ws, [[u, 3, 4]]), (loopO_go (s' := (1, ws, [[u, 3, 4]])) ?_).trans (loopO_end ?_)⟩
    · change (y1c ⟨1, 0, 3, 0, 0⟩ ⟨0, u, 4, 0, ⟨0, 0, 0, 0, 0, 0, 0⟩⟩ (layC d) ws []).bind _ = _
      rw [q1]; rfl
    · change (y1c ⟨1, 0, 3, 0, 0⟩ ⟨0, u, 4, 0, ⟨0, 0, 0, 0, 0, 0, 0⟩⟩ (layC d) ws [[u, 3, 4]]).bind _ = _
      rw [q2]; rfl
  have c2 : y0q d [ev1 u, ev2 u] = some 18 := by
    obtain ⟨n, y, hy⟩ := run2
    unfold y0q
    rw [NewE_eq, if_pos h2, Option.bind_some, cond_true, show y23 d.Workers [ev1 u, ev2 u] = some true from by unfold y23; rw [if_pos (by simp), ev_right hwk.1], Option.bind_some, sort_eq _ (by simp), Option.bind_some, show sortM [ev1 u, ev2 u] = [0, 1] from rfl,
      check_eq _ _ (by simp) (by simp), Option.bind_some, show checkM [ev1 u, ev2 u] [0, 1] = 0 from rfl, hy]; rfl
  have c1 : y0q d [ev1 u] = some 0 := by
    obtain ⟨y, hy⟩ := run1
    unfold y0q
    rw [NewE_eq, if_pos h2, Option.bind_some, cond_true, show y23 d.Workers [ev1 u] = some true from by unfold y23; rw [if_pos (by simp), ev_right1 hwk.1], Option.bind_some, sort_eq _ (by simp), Option.bind_some, show sortM [ev1 u] = [0] from rfl,
      check_eq _ _ (by simp) (by simp), Option.bind_some, show checkM [ev1 u] [0] = 0 from rfl, hy]; rfl
  rw [c2, c1]; rfl
theorem LinearArgs_main (c : yb) (l : List Ev) (hb : ∀ e ∈ l, CRB (evC e) (evR e)) : y4u c l = some true := by
  unfold y4u
  by_cases hlen : ((l.length : Nat) : Int) > 40
  · rw [decide_eq_true hlen, cond_true, lives27_ok]; rfl
  rw [decide_eq_false hlen, cond_false, Check_eq]
  by_cases hR : RightC c
  · have hrun : ∃ y, y1b c l [] = some (0, true, 0, y) := by
      unfold y1b
      rw [NewE_eq, if_pos hR, Option.bind_some, cond_true, there_all _ _ (by simp) (by simp), Option.bind_some]
      unfold y3u
      exact ⟨(layC c, List.replicate (c.Pages * 32).toNat 0, []), loopO_end rfl⟩
    obtain ⟨y, hy⟩ := hrun
    obtain ⟨e, g1, g2⟩ := check_right hR l (by omega) hb
    rw [if_pos hR, hy, g1, g2, lives27_ok]
    simp
  · have hrun : y1b c l [] = some (0, false, 2, ⟨⟨0,0,0,0,0,0,0,0,0,0,0⟩,0,0,0,0,0,0,0,0,0,0,0,0⟩, [], []) := by
      unfold y1b
      rw [NewE_eq, if_neg hR]; rfl
    rw [if_neg hR, hrun, check_wrong hR, lives27_ok]
    rfl
end Go.Rx
end

section
namespace Go.Rx
open Go.Proofs
theorem ev_crb {e : Ev} (h : elWf 3 e) : CRB (evC e) (evR e) := by
  have b : ∀ n, Value.int .i64 n ∈ encEv e → I64 n := fun n hn => bounds_i64 (h .i64 n hn)
  exact ⟨b _ (by simp [encEv, i64, evC, evR]), (b _ (by simp [encEv, i64, evC, evR])).2, ⟨(b _ (by simp [encEv, i64, evC, evR])).2, (b _ (by simp [encEv, i64, evC, evR])).2⟩, ⟨(b _ (by simp [encEv, i64, evC, evR])).2, (b _ (by simp [encEv, i64, evC, evR])).2⟩, (b _ (by simp [encEv, i64, evC, evR])).2⟩
theorem yiq : SpecOK Try.prog elTT 7 (lawS [.el 14, .row 3]) := spec_mono (fun args H K h => by
  obtain ⟨ha, hk⟩ := h
  obtain ⟨e0, _, rfl, hw0, l1, _, _, rfl, rfl, hw1, hn1, rfl, rfl⟩ := ha
  show So (y4u (⟨List.getD (e0 : List Int) 0 0, List.getD (e0 : List Int) 1 0, List.getD (e0 : List Int) 2 0, List.getD (e0 : List Int) 3 0, List.getD (e0 : List Int) 4 0, List.getD (e0 : List Int) 5 0, List.getD (e0 : List Int) 6 0, List.getD (e0 : List Int) 7 0, List.getD (e0 : List Int) 8 0, List.getD (e0 : List Int) 9 0, List.getD (e0 : List Int) 10 0⟩ : yb) l1) _
  exact So_eq (LinearArgs_main _ _ (fun e he => ev_crb (hw1 e he))) (hk _)) yht
end Go.Rx
end
