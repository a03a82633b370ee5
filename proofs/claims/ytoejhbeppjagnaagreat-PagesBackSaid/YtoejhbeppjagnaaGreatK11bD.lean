/- What the row's text of this claim stands on, part 4: the symbolic executor, contracts of the program's functions, plain facts. No condition. -/
import Derived.Test.YtoejhbeppjagnaaGreatK11bC
noncomputable section
namespace Go.Rx
open Go.Proofs
set_option maxRecDepth 100000
set_option maxHeartbeats 4000000
def y8w (m_ : Y4) (args : List V) (H : Heap) (K : V → Heap → Prop) : Prop :=
  aC args fun a0 r => aN r <| aInt a0 fun c => aN H <| So (m_ c) fun x => K (vi x) []
def y44 (m_ : Y4) : Spec := ⟨y8w m_, (true : Bool)⟩
def y8u (m_ : Y4) (args : List V) (H : Heap) (K : V → Heap → Prop) : Prop :=
  aC args fun a0 r => aN r <| aInt a0 fun c => aN H <| So (m_ c) fun x => K (vi x) []
def y46 (m_ : Y4) : Spec := ⟨y8u m_, (true : Bool)⟩
abbrev Y44 := Int → (List Int) → Option Int
def y87 (m_ : Y44) (args : List V) (H : Heap) (K : V → Heap → Prop) : Prop :=
  aC args fun a0 r => aC r fun a1 r => aN r <| aRow 0 a0 <| aInt a1 fun v => aC H fun b0 r => aN r <| bRow 0 true b0 fun (sv : List Int) => So (m_ v sv) fun x => K (vi x) [.row 0 sv true]
def yb1 (m_ : Y44) : Spec := ⟨y87 m_, (true : Bool)⟩
abbrev Y43 := Int → (List Int) → Option Bool
def y5u (m_ : Y43) (args : List V) (H : Heap) (K : V → Heap → Prop) : Prop :=
  aC args fun a0 r => aC r fun a1 r => aN r <| aRow 0 a0 <| aInt a1 fun v => aC H fun b0 r => aN r <| bRow 0 true b0 fun (sv : List Int) => So (m_ v sv) fun x => K (vb x) [.row 0 sv true]
def ybj (m_ : Y43) : Spec := ⟨y5u m_, (true : Bool)⟩
abbrev Y2 := Nat → (List Int) → ya → Int → Int → Int → Option (Int × Int × Int × Int × Int × Int × Int × Int × Int × Int × Int × Int × Int × Int × Int × Int × Int × Int × Int × Int × Int × Int × Int × Int × Bool)
def y90 (m_ : Y2) (args : List V) (H : Heap) (K : V → Heap → Prop) : Prop :=
  aC args fun a0 r => aC r fun a1 r => aC r fun a2 r => aC r fun a3 r => aC r fun a4 r => aN r <| aPtr 0 a0 <| aAgg a1 fun c1 => yq c1 fun l2 => aInt a2 fun p => aInt a3 fun c => aInt a4 fun f => aC H fun b0 r => aC r fun b1 r => aN r <| bView 1 b0 fun ws cur xs => bRow 0 true b1 fun (l : List Int) => ws = l ∧ xs.length ≤ 2 ∧ So (m_ ws.length cur l2 p c f) fun x => K (.tup [.agg [.ptr 0 0, vi x.1, vi x.2.1, vi x.2.2.1, vi x.2.2.2.1, vi x.2.2.2.2.1, vi x.2.2.2.2.2.1, vi x.2.2.2.2.2.2.1, vi x.2.2.2.2.2.2.2.1, vi x.2.2.2.2.2.2.2.2.1, vi x.2.2.2.2.2.2.2.2.2.1, vi x.2.2.2.2.2.2.2.2.2.2.1, vi x.2.2.2.2.2.2.2.2.2.2.2.1, vi x.2.2.2.2.2.2.2.2.2.2.2.2.1, vi x.2.2.2.2.2.2.2.2.2.2.2.2.2.1, vi x.2.2.2.2.2.2.2.2.2.2.2.2.2.2.1, vi x.2.2.2.2.2.2.2.2.2.2.2.2.2.2.2.1, vi x.2.2.2.2.2.2.2.2.2.2.2.2.2.2.2.2.1, vi x.2.2.2.2.2.2.2.2.2.2.2.2.2.2.2.2.2.1, vi x.2.2.2.2.2.2.2.2.2.2.2.2.2.2.2.2.2.2.1, vi x.2.2.2.2.2.2.2.2.2.2.2.2.2.2.2.2.2.2.2.1, vi x.2.2.2.2.2.2.2.2.2.2.2.2.2.2.2.2.2.2.2.2.1, vi x.2.2.2.2.2.2.2.2.2.2.2.2.2.2.2.2.2.2.2.2.2.1, vi x.2.2.2.2.2.2.2.2.2.2.2.2.2.2.2.2.2.2.2.2.2.2.1, vi x.2.2.2.2.2.2.2.2.2.2.2.2.2.2.2.2.2.2.2.2.2.2.2.1], vb x.2.2.2.2.2.2.2.2.2.2.2.2.2.2.2.2.2.2.2.2.2.2.2.2]) [.pk 0 [ws, cur] xs [.row 1], .row 0 l true]
def y93 (m_ : Y2) : Spec := ⟨y90 m_, (true : Bool)⟩
abbrev Y8 := Nat → (List Int) → Int → Int → Int → Int → Int → Int → Int → Int → Int → Int → Int → Int → Int → Int → Int → Int → Int → Int → Int → Int → Int → Int → Int → Int → Option (List Int)
def y6x (m_ : Y8) (args : List V) (H : Heap) (K : V → Heap → Prop) : Prop :=
  aC args fun a0 r => aN r <| aAgg a0 fun c0 => aC c0 fun a0_0 r => aPtr 0 a0_0 <| aC r fun a0_1 r => aInt a0_1 fun x_l_c_Workers => aC r fun a0_2 r => aInt a0_2 fun x_l_c_CPUs => aC r fun a0_3 r => aInt a0_3 fun x_l_c_Pages => aC r fun a0_4 r => aInt a0_4 fun x_l_c_Stripes => aC r fun a0_5 r => aInt a0_5 fun x_l_c_Tries => aC r fun a0_6 r => aInt a0_6 fun x_l_c_Wait => aC r fun a0_7 r => aInt a0_7 fun x_l_c_Clock => aC r fun a0_8 r => aInt a0_8 fun x_l_c_Private => aC r fun a0_9 r => aInt a0_9 fun x_l_c_Cache => aC r fun a0_10 r => aInt a0_10 fun x_l_c_Bin => aC r fun a0_11 r => aInt a0_11 fun x_l_c_Batch => aC r fun a0_12 r => aInt a0_12 fun x_l_at_0 => aC r fun a0_13 r => aInt a0_13 fun x_l_at_1 => aC r fun a0_14 r => aInt a0_14 fun x_l_at_2 => aC r fun a0_15 r => aInt a0_15 fun x_l_at_3 => aC r fun a0_16 r => aInt a0_16 fun x_l_at_4 => aC r fun a0_17 r => aInt a0_17 fun x_l_at_5 => aC r fun a0_18 r => aInt a0_18 fun x_l_at_6 => aC r fun a0_19 r => aInt a0_19 fun x_l_at_7 => aC r fun a0_20 r => aInt a0_20 fun x_l_at_8 => aC r fun a0_21 r => aInt a0_21 fun x_l_at_9 => aC r fun a0_22 r => aInt a0_22 fun x_l_at_10 => aC r fun a0_23 r => aInt a0_23 fun x_l_at_11 => aC r fun a0_24 r => aInt a0_24 fun x_head => aN r <| aC H fun b0 r => aC r fun b1 r => aN r <| bView 1 b0 fun ws cur xs => bRow 0 true b1 fun (l : List Int) => ws = l ∧ xs.length ≤ 2 ∧ So (m_ ws.length cur x_l_c_Workers x_l_c_CPUs x_l_c_Pages x_l_c_Stripes x_l_c_Tries x_l_c_Wait x_l_c_Clock x_l_c_Private x_l_c_Cache x_l_c_Bin x_l_c_Batch x_l_at_0 x_l_at_1 x_l_at_2 x_l_at_3 x_l_at_4 x_l_at_5 x_l_at_6 x_l_at_7 x_l_at_8 x_l_at_9 x_l_at_10 x_l_at_11 x_head) fun x => K (.row 2) [.pk 0 [ws, cur] xs [.row 1], .row 0 l true, .row 0 x false]
def ybr (m_ : Y8) : Spec := ⟨y6x m_, (true : Bool)⟩
abbrev Y6 := Nat → (List Int) → ya → Int → Int → Int → Option (Bool × (List Int))
def y8f (m_ : Y6) (args : List V) (H : Heap) (K : V → Heap → Prop) : Prop :=
  aC args fun a0 r => aC r fun a1 r => aC r fun a2 r => aC r fun a3 r => aC r fun a4 r => aN r <| aPtr 0 a0 <| aAgg a1 fun c1 => yq c1 fun l2 => aInt a2 fun p => aInt a3 fun c => aInt a4 fun f => aC H fun b0 r => aC r fun b1 r => aN r <| bView 1 b0 fun ws cur xs => bRow 0 true b1 fun (l : List Int) => ws = l ∧ xs.length ≤ 2 ∧ So (m_ ws.length cur l2 p c f) fun x => K (vb x.1) [.pk 0 [ws, x.2] xs [.row 1], .row 0 l true]
def ya3 (m_ : Y6) : Spec := ⟨y8f m_, (true : Bool)⟩
def y8k (m_ : Y6) (args : List V) (H : Heap) (K : V → Heap → Prop) : Prop :=
  aC args fun a0 r => aC r fun a1 r => aC r fun a2 r => aC r fun a3 r => aC r fun a4 r => aN r <| aPtr 0 a0 <| aAgg a1 fun c1 => yq c1 fun l2 => aInt a2 fun p => aInt a3 fun c => aInt a4 fun f => aC H fun b0 r => aC r fun b1 r => aN r <| bView 1 b0 fun ws cur xs => bRow 0 true b1 fun (l : List Int) => ws = l ∧ xs.length ≤ 2 ∧ So (m_ ws.length cur l2 p c f) fun x => K (vb x.1) [.pk 0 [ws, x.2] xs [.row 1], .row 0 l true]
def yck (m_ : Y6) : Spec := ⟨y8k m_, (true : Bool)⟩
abbrev Y0 := Nat → (List Int) → ya → Int → Option Int
def y9n (m_ : Y0) (args : List V) (H : Heap) (K : V → Heap → Prop) : Prop :=
  aC args fun a0 r => aC r fun a1 r => aC r fun a2 r => aN r <| aPtr 0 a0 <| aAgg a1 fun c1 => yq c1 fun l2 => aInt a2 fun c => aC H fun b0 r => aC r fun b1 r => aN r <| bView 1 b0 fun ws cur xs => bRow 0 true b1 fun (l : List Int) => ws = l ∧ xs.length ≤ 2 ∧ So (m_ ws.length cur l2 c) fun x => K (vi x) [.pk 0 [ws, cur] xs [.row 1], .row 0 l true]
def y9t (m_ : Y0) : Spec := ⟨y9n m_, (true : Bool)⟩
def yb8  : Cfg := { cfgB with
  sigs := (sigC 50 (inlS ({ cfgB with sigs := (sigC 91 (inlS cfgB Tryz.f91) sigN) } : Cfg) Tryz.f50) sigN) }
def ybp (yu : Y4) : Cfg := { cfgB with
  sigs := (sigC 19 (y44 yu) sigN) }
def y34  : Cfg := { cfgB with
  sigs := sigN,
  keep := fun r => match r with | 2 => some [(0, some 0), (1, none), (7, none), (8, none)] | _ => none }
def ycw (y2v : Y44) : Cfg := { cfgB with
  sigs := (sigC 157 (yb1 y2v) sigN) }
def yan (y06 : Y32) (yh : Y22) : Cfg := { cfgB with
  sigs := (sigC 93 (y81 y06) (sigC 17 (y3h yh) sigN)),
  plan := fun r => match r with | 2 => some (List.range 17, 2064) | _ => none,
  planT := fun r => match r with | 1 => some ((chainT [0, 1, 2, 3, 4] (.alt (chainT [5, 6, 7, 8] .fin) (chainT [7, 5, 6, 8] .fin))), 8208) | _ => none,
  flag := fun d => Nat.beq d 10 || Nat.beq d 12 }
def gc_plist_list_pages : Code := match at_ (bodyOf Tryz.f137) [1] with | .scope c => c | _ => .skip
def gr_plist_list_pages : Code := match findLabel gc_plist_list_pages 0 with | some c => c | none => .skip
def g_plist_list_pages : Func := { Tryz.f137 with body := some (.seq (at_ (bodyOf Tryz.f137) [0]) (goCode 1000 1001 gc_plist_list_pages gr_plist_list_pages)) }
def y35 (yh : Y22) (yw : Y1) : Cfg := { cfgB with
  sigs := (sigC 17 (y3h yh) (sigC 63 rdS (sigC 139 (y5j yw) sigN))),
  keep := fun r => match r with | 4 => some [(1, none), (3, some 0), (4, none), (5, none)] | _ => none,
  plan := fun r => match r with | 7 => some (List.range 9, 16) | _ => none }
def ycx (y1c : Y2) (yw y05 : Y1) : Cfg := { cfgB with
  sigs := (sigC 135 (y93 y1c) (sigC 63 rdS (sigC 139 (y5j yw) (sigC 96 wrS (sigC 138 (y9g y05) sigN))))) }
def yah (y1c : Y2) (y2l : Y8) (y2j : Y43) (y05 yw : Y1) : Cfg := { cfgB with
  sigs := (sigC 135 (y93 y1c) (sigC 137 (ybr y2l) (sigC 136 (ybj y2j) (sigC 138 (y9g y05) (sigC 63 rdS (sigC 139 (y5j yw) (sigC 96 wrS sigN))))))),
  plan := fun r => match r with | 4 => some ([0, 1, 2, 5, 6, 7, 3, 4, 8, 9, 10, 11], 16) | _ => none }
def y2s (yl : Y4) (y06 : Y32) : Cfg := { cfgB with
  sigs := (sigC 20 (y46 yl) (sigC 93 (y81 y06) (sigC 63 rdS sigN))),
  keep := fun r => match r with | 2 => some [(0, none), (2, none), (4, none), (7, none)] | _ => none }
theorem yii (c : Int) (K : V → Heap → Prop) : (exF yb8 Tryz.f19 [vi c] [] K) = (
    br (decide (c < 0)) (K (vi 0) []) (br (decide (c ≥ 5)) (K (vi 0) []) (Req (inR c (Int.toNat 5)) (br (c == (↑0 : Int)) (K (vi 1) []) (br (c == (↑1 : Int)) (K (vi 2) []) (br (c == (↑2 : Int)) (K (vi 4) []) (br (c == (↑3 : Int)) (K (vi 8) []) (br (c == (↑4 : Int)) (K (vi 16) []) True)))))))) := by kernel_rfl
theorem yim (yu : Y4) (c : Int) (K : V → Heap → Prop) : (exF (ybp yu) Tryz.f20 [vi c] [] K) = (
    So (yu c) (fun (y0 : Int) => (br (decide (y0 > 0)) (Req (!y0 == 0) (K (vi (IntKind.i64.wrap (Int.tdiv 32 y0))) [])) (K (vi 0) [])))) := by kernel_rfl
theorem yfz (v : Int) (sv : List Int) (t7 t8 : Int) (K : V → Heap → Prop) (J1 : Env → Heap → Prop) : (ex y34 (⟨19, 1⟩ : Cx) (at_ (bodyOf Tryz.f157) [1, 0, 1, 0, 0]) (mkEnv [(0, .row 0), (1, vi v), (7, vi t7), (8, vi t8)]) [.row 0 sv true] (roundK y34 (⟨19, 1⟩ : Cx) (at_ (bodyOf Tryz.f157) [1, 0, 1, 0, 0]) (contK y34 (⟨19, 1⟩ : Cx) (bodyOf Tryz.f157) [1, 0, 1, 0] (retK y34 Tryz.f157 1 K)) J1)) = (
    br (decide (t8 < t7)) (Req (inR t8 sv.length) (Req (inR (offs t8 0) sv.length) (br (v == sv.getD (offs t8 0).toNat 0) (K (vi t8) [.row 0 sv true]) (J1 (mkEnv [(0, .row 0), (1, vi v), (7, vi t7), (8, vi (IntKind.i64.wrap (t8 + 1)))]) [.row 0 sv true])))) (K (vi (-1)) [.row 0 sv true])) := by kernel_rfl
theorem yfm (v : Int) (sv : List Int) (K : V → Heap → Prop) : (exF y34 Tryz.f157 [.row 0, vi v] [.row 0 sv true] K) = (
    Loop y34 (⟨19, 1⟩ : Cx) (at_ (bodyOf Tryz.f157) [1, 0, 1, 0, 0]) (mkEnv [(0, .row 0), (1, vi v), (7, vi (↑sv.length : Int)), (8, vi 0)]) [.row 0 sv true] (contK y34 (⟨19, 1⟩ : Cx) (bodyOf Tryz.f157) [1, 0, 1, 0] (retK y34 Tryz.f157 1 K))) := by kernel_rfl
theorem yic (y2v : Y44) (v : Int) (sv : List Int) (K : V → Heap → Prop) : (exF (ycw y2v) Tryz.f136 [.row 0, vi v] [.row 0 sv true] K) = (
    So (y2v v sv) (fun (y0 : Int) => (K (vb (decide (y0 ≥ 0))) [.row 0 sv true]))) := by kernel_rfl
theorem yhq (y06 : Y32) (yh : Y22) (ws cur : List Int) (xs : List Value) (l2 : ya) (p c f : Int) (K : V → Heap → Prop) : (exF (yan y06 yh) Tryz.f135 [.ptr 0 0, .agg (yc l2), vi p, vi c, vi f] (hV ws cur xs) K) = (
    ((So (y06 l2 c f) (fun (y0 : Int) => (br (y0 != 0) (br (decide (p ≥ 0)) (So (yh l2) (fun (y1 : yb) => (K (.tup [.agg ([.ptr 0 0] ++ yc l2 ++ [vi y0]), vb (decide (p < y1.Pages))]) (hV ws cur xs)))) (K (.tup [.agg ([.ptr 0 0] ++ yc l2 ++ [vi y0]), vb false]) (hV ws cur xs))) (K (.tup [.agg ([.ptr 0 0] ++ yc l2 ++ [vi y0]), vb false]) (hV ws cur xs))))) ∧ (So (y06 l2 c f) (fun (y2 : Int) => (br (y2 != 0) (br (decide (p ≥ 0)) (So (yh l2) (fun (y3 : yb) => (K (.tup [.agg ([.ptr 0 0] ++ yc l2 ++ [vi y2]), vb (decide (p < y3.Pages))]) (hV ws cur xs)))) (K (.tup [.agg ([.ptr 0 0] ++ yc l2 ++ [vi y2]), vb false]) (hV ws cur xs))) (K (.tup [.agg ([.ptr 0 0] ++ yc l2 ++ [vi y2]), vb false]) (hV ws cur xs))))))) := by kernel_rfl
theorem yeo (yh : Y22) (yw : Y1) (ws cur : List Int) (xs : List Value) (x_l_c_Workers x_l_c_CPUs : Int) (x_l_c_Pages x_l_c_Stripes : Int) (x_l_c_Tries x_l_c_Wait : Int) (x_l_c_Clock x_l_c_Private : Int) (x_l_c_Cache x_l_c_Bin : Int) (x_l_c_Batch x_l_at_0 : Int) (x_l_at_1 x_l_at_2 : Int) (x_l_at_3 x_l_at_4 : Int) (x_l_at_5 x_l_at_6 : Int) (x_l_at_7 x_l_at_8 : Int) (x_l_at_9 x_l_at_10 : Int) (x_l_at_11 x_head : Int) (left atv : Int) (w : List Int) (K : V → Heap → Prop) (J1 : Env → Heap → Prop) : (ex (y35 yh yw) (⟨37, 2⟩ : Cx) (at_ (bodyOf g_plist_list_pages) [1, 0, 1, 0]) (mkEnv [(1, .ptr 2 0), (3, .row 3), (4, vi left), (5, vi atv)]) [.pk 0 [ws, cur] xs [.row 1], .row 0 ws true, .cells 131 [.ptr 0 0, vi x_l_c_Workers, vi x_l_c_CPUs, vi x_l_c_Pages, vi x_l_c_Stripes, vi x_l_c_Tries, vi x_l_c_Wait, vi x_l_c_Clock, vi x_l_c_Private, vi x_l_c_Cache, vi x_l_c_Bin, vi x_l_c_Batch, vi x_l_at_0, vi x_l_at_1, vi x_l_at_2, vi x_l_at_3, vi x_l_at_4, vi x_l_at_5, vi x_l_at_6, vi x_l_at_7, vi x_l_at_8, vi x_l_at_9, vi x_l_at_10, vi x_l_at_11, vi x_head], .row 0 w false] (roundK (y35 yh yw) (⟨37, 2⟩ : Cx) (at_ (bodyOf g_plist_list_pages) [1, 0, 1, 0]) (contK (y35 yh yw) (⟨37, 2⟩ : Cx) (bodyOf g_plist_list_pages) [1, 0, 1] (retK (y35 yh yw) g_plist_list_pages 2 K)) J1)) = (
    br (decide (atv ≤ 0)) (K (.row 2) [.pk 0 [ws, cur] xs [.row 1], .row 0 ws true, .row 0 w false]) (br (left == 0) (K (.row 2) [.pk 0 [ws, cur] xs [.row 1], .row 0 ws true, .row 0 w false]) (Req (decide (w.length + 1 ≤ 1048576)) (So (yw (ya.mk (yb.mk x_l_c_Workers x_l_c_CPUs x_l_c_Pages x_l_c_Stripes x_l_c_Tries x_l_c_Wait x_l_c_Clock x_l_c_Private x_l_c_Cache x_l_c_Bin x_l_c_Batch) x_l_at_0 x_l_at_1 x_l_at_2 x_l_at_3 x_l_at_4 x_l_at_5 x_l_at_6 x_l_at_7 x_l_at_8 x_l_at_9 x_l_at_10 x_l_at_11) (IntKind.i64.wrap (atv - 1))) (fun (y0 : Int) => ((ws = ws) ∧ ((xs.length ≤ 2) ∧ (Req (inR y0 ws.length) (J1 (mkEnv [(1, .ptr 2 0), (3, .row 3), (4, vi (IntKind.i64.wrap (left - 1))), (5, vi (rd cur y0))]) [.pk 0 [ws, cur] xs [.row 1], .row 0 ws true, .cells 131 [.ptr 0 0, vi x_l_c_Workers, vi x_l_c_CPUs, vi x_l_c_Pages, vi x_l_c_Stripes, vi x_l_c_Tries, vi x_l_c_Wait, vi x_l_c_Clock, vi x_l_c_Private, vi x_l_c_Cache, vi x_l_c_Bin, vi x_l_c_Batch, vi x_l_at_0, vi x_l_at_1, vi x_l_at_2, vi x_l_at_3, vi x_l_at_4, vi x_l_at_5, vi x_l_at_6, vi x_l_at_7, vi x_l_at_8, vi x_l_at_9, vi x_l_at_10, vi x_l_at_11, vi x_head], .row 0 (w ++ [IntKind.i64.wrap (atv - 1)] : List Int) false]))))))))) := by kernel_rfl
theorem yep (yh : Y22) (yw : Y1) (ws cur : List Int) (xs : List Value) (x_l_c_Workers x_l_c_CPUs : Int) (x_l_c_Pages x_l_c_Stripes : Int) (x_l_c_Tries x_l_c_Wait : Int) (x_l_c_Clock x_l_c_Private : Int) (x_l_c_Cache x_l_c_Bin : Int) (x_l_c_Batch x_l_at_0 : Int) (x_l_at_1 x_l_at_2 : Int) (x_l_at_3 x_l_at_4 : Int) (x_l_at_5 x_l_at_6 : Int) (x_l_at_7 x_l_at_8 : Int) (x_l_at_9 x_l_at_10 : Int) (x_l_at_11 x_head : Int) (K : V → Heap → Prop) : (exF (y35 yh yw) g_plist_list_pages [.agg [.ptr 0 0, vi x_l_c_Workers, vi x_l_c_CPUs, vi x_l_c_Pages, vi x_l_c_Stripes, vi x_l_c_Tries, vi x_l_c_Wait, vi x_l_c_Clock, vi x_l_c_Private, vi x_l_c_Cache, vi x_l_c_Bin, vi x_l_c_Batch, vi x_l_at_0, vi x_l_at_1, vi x_l_at_2, vi x_l_at_3, vi x_l_at_4, vi x_l_at_5, vi x_l_at_6, vi x_l_at_7, vi x_l_at_8, vi x_l_at_9, vi x_l_at_10, vi x_l_at_11, vi x_head]] (hV ws cur xs) K) = (
    So (yh (ya.mk (yb.mk x_l_c_Workers x_l_c_CPUs x_l_c_Pages x_l_c_Stripes x_l_c_Tries x_l_c_Wait x_l_c_Clock x_l_c_Private x_l_c_Cache x_l_c_Bin x_l_c_Batch) x_l_at_0 x_l_at_1 x_l_at_2 x_l_at_3 x_l_at_4 x_l_at_5 x_l_at_6 x_l_at_7 x_l_at_8 x_l_at_9 x_l_at_10 x_l_at_11)) (fun (y0 : yb) => ((ws = ws) ∧ ((xs.length ≤ 2) ∧ (Req (inR x_head ws.length) (br (decide (rd cur x_head ≤ 0)) (K (.row 2) [.pk 0 [ws, cur] xs [.row 1], .row 0 ws true, .row 0 ([] : List Int) false]) (br (y0.Pages == 0) (K (.row 2) [.pk 0 [ws, cur] xs [.row 1], .row 0 ws true, .row 0 ([] : List Int) false]) (So (yw (ya.mk (yb.mk x_l_c_Workers x_l_c_CPUs x_l_c_Pages x_l_c_Stripes x_l_c_Tries x_l_c_Wait x_l_c_Clock x_l_c_Private x_l_c_Cache x_l_c_Bin x_l_c_Batch) x_l_at_0 x_l_at_1 x_l_at_2 x_l_at_3 x_l_at_4 x_l_at_5 x_l_at_6 x_l_at_7 x_l_at_8 x_l_at_9 x_l_at_10 x_l_at_11) (IntKind.i64.wrap (rd cur x_head - 1))) (fun (y1 : Int) => ((ws = ws) ∧ ((xs.length ≤ 2) ∧ (Req (inR y1 ws.length) (Loop (y35 yh yw) (⟨37, 2⟩ : Cx) (at_ (bodyOf g_plist_list_pages) [1, 0, 1, 0]) (mkEnv [(1, .ptr 2 0), (3, .row 3), (4, vi (IntKind.i64.wrap (y0.Pages - 1))), (5, vi (rd cur y1))]) [.pk 0 [ws, cur] xs [.row 1], .row 0 ws true, .cells 131 [.ptr 0 0, vi x_l_c_Workers, vi x_l_c_CPUs, vi x_l_c_Pages, vi x_l_c_Stripes, vi x_l_c_Tries, vi x_l_c_Wait, vi x_l_c_Clock, vi x_l_c_Private, vi x_l_c_Cache, vi x_l_c_Bin, vi x_l_c_Batch, vi x_l_at_0, vi x_l_at_1, vi x_l_at_2, vi x_l_at_3, vi x_l_at_4, vi x_l_at_5, vi x_l_at_6, vi x_l_at_7, vi x_l_at_8, vi x_l_at_9, vi x_l_at_10, vi x_l_at_11, vi x_head], .row 0 ([IntKind.i64.wrap (rd cur x_head - 1)] : List Int) false] (contK (y35 yh yw) (⟨37, 2⟩ : Cx) (bodyOf g_plist_list_pages) [1, 0, 1] (retK (y35 yh yw) g_plist_list_pages 2 K))))))))))))))) := by kernel_rfl
theorem yg0 (y1c : Y2) (yw y05 : Y1) (ws cur : List Int) (xs : List Value) (l2 : ya) (p c f : Int) (K : V → Heap → Prop) : (exF (ycx y1c yw y05) Tryz.f100 [.ptr 0 0, .agg (yc l2), vi p, vi c, vi f] (hV ws cur xs) K) = (
    ((ws = ws) ∧ ((xs.length ≤ 2) ∧ (So (y1c ws.length cur l2 p c f) (fun (y0 : Int × Int × Int × Int × Int × Int × Int × Int × Int × Int × Int × Int × Int × Int × Int × Int × Int × Int × Int × Int × Int × Int × Int × Int × Bool) => (br (!y0.2.2.2.2.2.2.2.2.2.2.2.2.2.2.2.2.2.2.2.2.2.2.2.2) (K (vb false) (hV ws cur xs)) ((ws = ws) ∧ ((xs.length ≤ 2) ∧ (Req (inR y0.2.2.2.2.2.2.2.2.2.2.2.2.2.2.2.2.2.2.2.2.2.2.2.1 ws.length) (So (yw l2 p) (fun (y1 : Int) => ((ws = ws) ∧ ((xs.length ≤ 2) ∧ (Req (inR y1 ws.length) (So (y05 l2 p) (fun (y2 : Int) => ((ws = ws) ∧ ((xs.length ≤ 2) ∧ (Req (inR y2 ws.length) (br (rd cur y0.2.2.2.2.2.2.2.2.2.2.2.2.2.2.2.2.2.2.2.2.2.2.2.1 != 0) (So (y05 l2 (IntKind.i64.wrap (rd cur y0.2.2.2.2.2.2.2.2.2.2.2.2.2.2.2.2.2.2.2.2.2.2.2.1 - 1))) (fun (y3 : Int) => ((ws = ws) ∧ ((xs.length ≤ 2) ∧ (Req (inR y3 ws.length) ((ws = ws) ∧ ((xs.length ≤ 2) ∧ (Req (inR y0.2.2.2.2.2.2.2.2.2.2.2.2.2.2.2.2.2.2.2.2.2.2.2.1 ws.length) (K (vb true) (hV ws (wr (wr (wr (wr cur y1 (rd cur y0.2.2.2.2.2.2.2.2.2.2.2.2.2.2.2.2.2.2.2.2.2.2.2.1)) y2 0) y3 (IntKind.i64.wrap (p + 1))) y0.2.2.2.2.2.2.2.2.2.2.2.2.2.2.2.2.2.2.2.2.2.2.2.1 (IntKind.i64.wrap (p + 1))) xs)))))))))) ((ws = ws) ∧ ((xs.length ≤ 2) ∧ (Req (inR y0.2.2.2.2.2.2.2.2.2.2.2.2.2.2.2.2.2.2.2.2.2.2.2.1 ws.length) (K (vb true) (hV ws (wr (wr (wr cur y1 (rd cur y0.2.2.2.2.2.2.2.2.2.2.2.2.2.2.2.2.2.2.2.2.2.2.2.1)) y2 0) y0.2.2.2.2.2.2.2.2.2.2.2.2.2.2.2.2.2.2.2.2.2.2.2.1 (IntKind.i64.wrap (p + 1))) xs))))))))))))))))))))))))) := by kernel_rfl
theorem yj1 (y1c : Y2) (y2l : Y8) (y2j : Y43) (y05 yw : Y1) (ws cur : List Int) (xs : List Value) (l2 : ya) (p c f : Int) (K : V → Heap → Prop) : (exF (yah y1c y2l y2j y05 yw) Tryz.f97 [.ptr 0 0, .agg (yc l2), vi p, vi c, vi f] (hV ws cur xs) K) = (
    ((ws = ws) ∧ ((xs.length ≤ 2) ∧ (So (y1c ws.length cur l2 p c f) (fun (y0 : Int × Int × Int × Int × Int × Int × Int × Int × Int × Int × Int × Int × Int × Int × Int × Int × Int × Int × Int × Int × Int × Int × Int × Int × Bool) => (br (!y0.2.2.2.2.2.2.2.2.2.2.2.2.2.2.2.2.2.2.2.2.2.2.2.2) (K (vb false) (hV ws cur xs)) ((ws = ws) ∧ ((xs.length ≤ 2) ∧ (So (y2l ws.length cur y0.1 y0.2.1 y0.2.2.1 y0.2.2.2.1 y0.2.2.2.2.1 y0.2.2.2.2.2.1 y0.2.2.2.2.2.2.1 y0.2.2.2.2.2.2.2.1 y0.2.2.2.2.2.2.2.2.1 y0.2.2.2.2.2.2.2.2.2.1 y0.2.2.2.2.2.2.2.2.2.2.1 y0.2.2.2.2.2.2.2.2.2.2.2.1 y0.2.2.2.2.2.2.2.2.2.2.2.2.1 y0.2.2.2.2.2.2.2.2.2.2.2.2.2.1 y0.2.2.2.2.2.2.2.2.2.2.2.2.2.2.1 y0.2.2.2.2.2.2.2.2.2.2.2.2.2.2.2.1 y0.2.2.2.2.2.2.2.2.2.2.2.2.2.2.2.2.1 y0.2.2.2.2.2.2.2.2.2.2.2.2.2.2.2.2.2.1 y0.2.2.2.2.2.2.2.2.2.2.2.2.2.2.2.2.2.2.1 y0.2.2.2.2.2.2.2.2.2.2.2.2.2.2.2.2.2.2.2.1 y0.2.2.2.2.2.2.2.2.2.2.2.2.2.2.2.2.2.2.2.2.1 y0.2.2.2.2.2.2.2.2.2.2.2.2.2.2.2.2.2.2.2.2.2.1 y0.2.2.2.2.2.2.2.2.2.2.2.2.2.2.2.2.2.2.2.2.2.2.1 y0.2.2.2.2.2.2.2.2.2.2.2.2.2.2.2.2.2.2.2.2.2.2.2.1) (fun (y1 : List Int) => (So (y2j p y1) (fun (y2 : Bool) => (br (!y2) (K (vb false) (hV ws cur xs)) (So (y05 l2 p) (fun (y3 : Int) => ((ws = ws) ∧ ((xs.length ≤ 2) ∧ (Req (inR y3 ws.length) (So (yw l2 p) (fun (y4 : Int) => ((ws = ws) ∧ ((xs.length ≤ 2) ∧ (Req (inR y4 ws.length) (br (rd cur y3 == 0) ((ws = ws) ∧ ((xs.length ≤ 2) ∧ (Req (inR y0.2.2.2.2.2.2.2.2.2.2.2.2.2.2.2.2.2.2.2.2.2.2.2.1 ws.length) (br (rd cur y4 != 0) (So (y05 l2 (IntKind.i64.wrap (rd cur y4 - 1))) (fun (y5 : Int) => ((ws = ws) ∧ ((xs.length ≤ 2) ∧ (Req (inR y5 ws.length) (So (yw l2 p) (fun (y6 : Int) => ((ws = ws) ∧ ((xs.length ≤ 2) ∧ (Req (inR y6 ws.length) (So (y05 l2 p) (fun (y7 : Int) => ((ws = ws) ∧ ((xs.length ≤ 2) ∧ (Req (inR y7 ws.length) (K (vb true) (hV ws (wr (wr (wr (wr cur y0.2.2.2.2.2.2.2.2.2.2.2.2.2.2.2.2.2.2.2.2.2.2.2.1 (rd cur y4)) y5 (rd cur y3)) y6 0) y7 0) xs))))))))))))))))) (So (yw l2 p) (fun (y8 : Int) => ((ws = ws) ∧ ((xs.length ≤ 2) ∧ (Req (inR y8 ws.length) (So (y05 l2 p) (fun (y9 : Int) => ((ws = ws) ∧ ((xs.length ≤ 2) ∧ (Req (inR y9 ws.length) (K (vb true) (hV ws (wr (wr (wr cur y0.2.2.2.2.2.2.2.2.2.2.2.2.2.2.2.2.2.2.2.2.2.2.2.1 (rd cur y4)) y8 0) y9 0) xs)))))))))))))))) (So (yw l2 (IntKind.i64.wrap (rd cur y3 - 1))) (fun (y10 : Int) => ((ws = ws) ∧ ((xs.length ≤ 2) ∧ (Req (inR y10 ws.length) (br (rd cur y4 != 0) (So (y05 l2 (IntKind.i64.wrap (rd cur y4 - 1))) (fun (y11 : Int) => ((ws = ws) ∧ ((xs.length ≤ 2) ∧ (Req (inR y11 ws.length) (So (yw l2 p) (fun (y12 : Int) => ((ws = ws) ∧ ((xs.length ≤ 2) ∧ (Req (inR y12 ws.length) (So (y05 l2 p) (fun (y13 : Int) => ((ws = ws) ∧ ((xs.length ≤ 2) ∧ (Req (inR y13 ws.length) (K (vb true) (hV ws (wr (wr (wr (wr cur y10 (rd cur y4)) y11 (rd cur y3)) y12 0) y13 0) xs))))))))))))))))) (So (yw l2 p) (fun (y14 : Int) => ((ws = ws) ∧ ((xs.length ≤ 2) ∧ (Req (inR y14 ws.length) (So (y05 l2 p) (fun (y15 : Int) => ((ws = ws) ∧ ((xs.length ≤ 2) ∧ (Req (inR y15 ws.length) (K (vb true) (hV ws (wr (wr (wr cur y10 (rd cur y4)) y14 0) y15 0) xs)))))))))))))))))))))))))))))))))))))))))) := by kernel_rfl
theorem ygg (yl : Y4) (y06 : Y32) (ws cur : List Int) (xs : List Value) (l2 : ya) (c f : Int) (K : V → Heap → Prop) (J1 : Env → Heap → Prop) : (ex (y2s yl y06) (⟨25, 2⟩ : Cx) (at_ (bodyOf Tryz.f52) [1, 0, 1, 0, 0]) (mkEnv [(0, .ptr 0 0), (2, vi c), (4, .ptr 2 0), (7, vi f)]) [.pk 0 [ws, cur] xs [.row 1], .row 0 ws true, .cells 28 (yc l2)] (roundK (y2s yl y06) (⟨25, 2⟩ : Cx) (at_ (bodyOf Tryz.f52) [1, 0, 1, 0, 0]) (contK (y2s yl y06) (⟨25, 2⟩ : Cx) (bodyOf Tryz.f52) [1, 0, 1, 0] (retK (y2s yl y06) Tryz.f52 2 K)) J1)) = (
    So (yl c) (fun (y0 : Int) => (br (decide (f ≤ y0)) (So (y06 l2 c f) (fun (y1 : Int) => ((ws = ws) ∧ ((xs.length ≤ 2) ∧ (Req (inR y1 ws.length) (br (decide (rd cur y1 > 0)) (K (vi (IntKind.i64.wrap (rd cur y1 - 1))) (hV ws cur xs)) (J1 (mkEnv [(0, .ptr 0 0), (2, vi c), (4, .ptr 2 0), (7, vi (IntKind.i64.wrap (f + 1)))]) [.pk 0 [ws, cur] xs [.row 1], .row 0 ws true, .cells 28 (yc l2)]))))))) (K (vi (-1)) (hV ws cur xs))))) := by kernel_rfl
theorem yi8 (yl : Y4) (y06 : Y32) (ws cur : List Int) (xs : List Value) (l2 : ya) (c : Int) (K : V → Heap → Prop) : (exF (y2s yl y06) Tryz.f52 [.ptr 0 0, .agg (yc l2), vi c] (hV ws cur xs) K) = (
    Loop (y2s yl y06) (⟨25, 2⟩ : Cx) (at_ (bodyOf Tryz.f52) [1, 0, 1, 0, 0]) (mkEnv [(0, .ptr 0 0), (2, vi c), (4, .ptr 2 0), (7, vi 1)]) [.pk 0 [ws, cur] xs [.row 1], .row 0 ws true, .cells 28 (yc l2)] (contK (y2s yl y06) (⟨25, 2⟩ : Cx) (bodyOf Tryz.f52) [1, 0, 1, 0] (retK (y2s yl y06) Tryz.f52 2 K))) := by kernel_rfl
def yu (c : Int) : Option Int :=
  (bif (decide (c < 0)) then some 0 else (bif (decide (c ≥ 5)) then some 0 else (bif (inR c (Int.toNat 5)) then (bif (c == (↑0 : Int)) then some 1 else (bif (c == (↑1 : Int)) then some 2 else (bif (c == (↑2 : Int)) then some 4 else (bif (c == (↑3 : Int)) then some 8 else (bif (c == (↑4 : Int)) then some 16 else none))))) else none)))
def yl (c : Int) : Option Int :=
  ((yu c).bind fun y0 => (bif (decide (y0 > 0)) then (bif (!y0 == 0) then some (IntKind.i64.wrap (Int.tdiv 32 y0)) else none) else some 0))
def y4c (v : Int) (sv : List Int) (t7 t8 : Int) : Option (Int ⊕ Int) :=
  (bif (decide (t8 < t7)) then (bif (inR t8 sv.length) then (bif (inR (offs t8 0) sv.length) then (bif (v == sv.getD (offs t8 0).toNat 0) then some (.inr t8) else some (.inl (IntKind.i64.wrap (t8 + 1)))) else none) else none) else some (.inr (-1)))
def yao (v : Int) (sv : List Int) (t7 s : Int) : Option Int :=
  loopO (fun s => y4c v sv t7 s) s
def y2v (v : Int) (sv : List Int) : Option Int :=
  (yao v sv (↑sv.length : Int) 0)
def y2j (v : Int) (sv : List Int) : Option Bool :=
  ((y2v v sv).bind fun y0 => some (decide (y0 ≥ 0)))
def y1c (nw : Nat) (cur : List Int) (l2 : ya) (p c f : Int) : Option (Int × Int × Int × Int × Int × Int × Int × Int × Int × Int × Int × Int × Int × Int × Int × Int × Int × Int × Int × Int × Int × Int × Int × Int × Bool) :=
  ((y06 l2 c f).bind fun y2 => (bif (y2 != 0) then (bif (decide (p ≥ 0)) then ((yh l2).bind fun y3 => some (l2.c.Workers, l2.c.CPUs, l2.c.Pages, l2.c.Stripes, l2.c.Tries, l2.c.Wait, l2.c.Clock, l2.c.Private, l2.c.Cache, l2.c.Bin, l2.c.Batch, l2.at_0, l2.at_1, l2.at_2, l2.at_3, l2.at_4, l2.at_5, l2.at_6, l2.at_7, l2.at_8, l2.at_9, l2.at_10, l2.at_11, y2, (decide (p < y3.Pages)))) else some (l2.c.Workers, l2.c.CPUs, l2.c.Pages, l2.c.Stripes, l2.c.Tries, l2.c.Wait, l2.c.Clock, l2.c.Private, l2.c.Cache, l2.c.Bin, l2.c.Batch, l2.at_0, l2.at_1, l2.at_2, l2.at_3, l2.at_4, l2.at_5, l2.at_6, l2.at_7, l2.at_8, l2.at_9, l2.at_10, l2.at_11, y2, false)) else some (l2.c.Workers, l2.c.CPUs, l2.c.Pages, l2.c.Stripes, l2.c.Tries, l2.c.Wait, l2.c.Clock, l2.c.Private, l2.c.Cache, l2.c.Bin, l2.c.Batch, l2.at_0, l2.at_1, l2.at_2, l2.at_3, l2.at_4, l2.at_5, l2.at_6, l2.at_7, l2.at_8, l2.at_9, l2.at_10, l2.at_11, y2, false)))
def y4x (nw : Nat) (cur : List Int) (x_l_c_Workers x_l_c_CPUs : Int) (x_l_c_Pages x_l_c_Stripes : Int) (x_l_c_Tries x_l_c_Wait : Int) (x_l_c_Clock x_l_c_Private : Int) (x_l_c_Cache x_l_c_Bin : Int) (x_l_c_Batch x_l_at_0 : Int) (x_l_at_1 x_l_at_2 : Int) (x_l_at_3 x_l_at_4 : Int) (x_l_at_5 x_l_at_6 : Int) (x_l_at_7 x_l_at_8 : Int) (x_l_at_9 x_l_at_10 : Int) (x_l_at_11 left atv : Int) (w : List Int) : Option ((Int × Int × (List Int)) ⊕ (List Int)) :=
  (bif (decide (atv ≤ 0)) then some (.inr w) else (bif (left == 0) then some (.inr w) else (bif (decide (w.length + 1 ≤ 1048576)) then ((yw (ya.mk (yb.mk x_l_c_Workers x_l_c_CPUs x_l_c_Pages x_l_c_Stripes x_l_c_Tries x_l_c_Wait x_l_c_Clock x_l_c_Private x_l_c_Cache x_l_c_Bin x_l_c_Batch) x_l_at_0 x_l_at_1 x_l_at_2 x_l_at_3 x_l_at_4 x_l_at_5 x_l_at_6 x_l_at_7 x_l_at_8 x_l_at_9 x_l_at_10 x_l_at_11) (IntKind.i64.wrap (atv - 1))).bind fun y0 => (bif (inR y0 nw) then some (.inl ((IntKind.i64.wrap (left - 1)), (rd cur y0), (w ++ [IntKind.i64.wrap (atv - 1)]))) else none)) else none)))
def ybt (nw : Nat) (cur : List Int) (x_l_c_Workers x_l_c_CPUs : Int) (x_l_c_Pages x_l_c_Stripes : Int) (x_l_c_Tries x_l_c_Wait : Int) (x_l_c_Clock x_l_c_Private : Int) (x_l_c_Cache x_l_c_Bin : Int) (x_l_c_Batch x_l_at_0 : Int) (x_l_at_1 x_l_at_2 : Int) (x_l_at_3 x_l_at_4 : Int) (x_l_at_5 x_l_at_6 : Int) (x_l_at_7 x_l_at_8 : Int) (x_l_at_9 x_l_at_10 x_l_at_11 : Int) (s : Int × Int × (List Int)) : Option (List Int) :=
  loopO (fun s => y4x nw cur x_l_c_Workers x_l_c_CPUs x_l_c_Pages x_l_c_Stripes x_l_c_Tries x_l_c_Wait x_l_c_Clock x_l_c_Private x_l_c_Cache x_l_c_Bin x_l_c_Batch x_l_at_0 x_l_at_1 x_l_at_2 x_l_at_3 x_l_at_4 x_l_at_5 x_l_at_6 x_l_at_7 x_l_at_8 x_l_at_9 x_l_at_10 x_l_at_11 s.1 s.2.1 s.2.2) s
def y2l (nw : Nat) (cur : List Int) (x_l_c_Workers x_l_c_CPUs : Int) (x_l_c_Pages x_l_c_Stripes : Int) (x_l_c_Tries x_l_c_Wait : Int) (x_l_c_Clock x_l_c_Private : Int) (x_l_c_Cache x_l_c_Bin : Int) (x_l_c_Batch x_l_at_0 : Int) (x_l_at_1 x_l_at_2 : Int) (x_l_at_3 x_l_at_4 : Int) (x_l_at_5 x_l_at_6 : Int) (x_l_at_7 x_l_at_8 : Int) (x_l_at_9 x_l_at_10 : Int) (x_l_at_11 x_head : Int) : Option (List Int) :=
  ((yh (ya.mk (yb.mk x_l_c_Workers x_l_c_CPUs x_l_c_Pages x_l_c_Stripes x_l_c_Tries x_l_c_Wait x_l_c_Clock x_l_c_Private x_l_c_Cache x_l_c_Bin x_l_c_Batch) x_l_at_0 x_l_at_1 x_l_at_2 x_l_at_3 x_l_at_4 x_l_at_5 x_l_at_6 x_l_at_7 x_l_at_8 x_l_at_9 x_l_at_10 x_l_at_11)).bind fun y0 => (bif (inR x_head nw) then (bif (decide (rd cur x_head ≤ 0)) then some ([]) else (bif (y0.Pages == 0) then some ([]) else ((yw (ya.mk (yb.mk x_l_c_Workers x_l_c_CPUs x_l_c_Pages x_l_c_Stripes x_l_c_Tries x_l_c_Wait x_l_c_Clock x_l_c_Private x_l_c_Cache x_l_c_Bin x_l_c_Batch) x_l_at_0 x_l_at_1 x_l_at_2 x_l_at_3 x_l_at_4 x_l_at_5 x_l_at_6 x_l_at_7 x_l_at_8 x_l_at_9 x_l_at_10 x_l_at_11) (IntKind.i64.wrap (rd cur x_head - 1))).bind fun y1 => (bif (inR y1 nw) then (ybt nw cur x_l_c_Workers x_l_c_CPUs x_l_c_Pages x_l_c_Stripes x_l_c_Tries x_l_c_Wait x_l_c_Clock x_l_c_Private x_l_c_Cache x_l_c_Bin x_l_c_Batch x_l_at_0 x_l_at_1 x_l_at_2 x_l_at_3 x_l_at_4 x_l_at_5 x_l_at_6 x_l_at_7 x_l_at_8 x_l_at_9 x_l_at_10 x_l_at_11 ((IntKind.i64.wrap (y0.Pages - 1)), (rd cur y1), ([IntKind.i64.wrap (rd cur x_head - 1)]))) else none)))) else none))
def y1o (nw : Nat) (cur : List Int) (l2 : ya) (p c f : Int) : Option (Bool × (List Int)) :=
  ((y1c nw cur l2 p c f).bind fun y0 => (bif (!y0.2.2.2.2.2.2.2.2.2.2.2.2.2.2.2.2.2.2.2.2.2.2.2.2) then some (false, cur) else (bif (inR y0.2.2.2.2.2.2.2.2.2.2.2.2.2.2.2.2.2.2.2.2.2.2.2.1 nw) then ((yw l2 p).bind fun y1 => (bif (inR y1 nw) then ((y05 l2 p).bind fun y2 => (bif (inR y2 nw) then (bif (rd cur y0.2.2.2.2.2.2.2.2.2.2.2.2.2.2.2.2.2.2.2.2.2.2.2.1 != 0) then ((y05 l2 (IntKind.i64.wrap (rd cur y0.2.2.2.2.2.2.2.2.2.2.2.2.2.2.2.2.2.2.2.2.2.2.2.1 - 1))).bind fun y3 => (bif (inR y3 nw) then (bif (inR y0.2.2.2.2.2.2.2.2.2.2.2.2.2.2.2.2.2.2.2.2.2.2.2.1 nw) then some (true, (wr (wr (wr (wr cur y1 (rd cur y0.2.2.2.2.2.2.2.2.2.2.2.2.2.2.2.2.2.2.2.2.2.2.2.1)) y2 0) y3 (IntKind.i64.wrap (p + 1))) y0.2.2.2.2.2.2.2.2.2.2.2.2.2.2.2.2.2.2.2.2.2.2.2.1 (IntKind.i64.wrap (p + 1)))) else none) else none)) else (bif (inR y0.2.2.2.2.2.2.2.2.2.2.2.2.2.2.2.2.2.2.2.2.2.2.2.1 nw) then some (true, (wr (wr (wr cur y1 (rd cur y0.2.2.2.2.2.2.2.2.2.2.2.2.2.2.2.2.2.2.2.2.2.2.2.1)) y2 0) y0.2.2.2.2.2.2.2.2.2.2.2.2.2.2.2.2.2.2.2.2.2.2.2.1 (IntKind.i64.wrap (p + 1)))) else none)) else none)) else none)) else none)))
def y2d (nw : Nat) (cur : List Int) (l2 : ya) (p c f : Int) : Option (Bool × (List Int)) :=
  ((y1c nw cur l2 p c f).bind fun y0 => (bif (!y0.2.2.2.2.2.2.2.2.2.2.2.2.2.2.2.2.2.2.2.2.2.2.2.2) then some (false, cur) else ((y2l nw cur y0.1 y0.2.1 y0.2.2.1 y0.2.2.2.1 y0.2.2.2.2.1 y0.2.2.2.2.2.1 y0.2.2.2.2.2.2.1 y0.2.2.2.2.2.2.2.1 y0.2.2.2.2.2.2.2.2.1 y0.2.2.2.2.2.2.2.2.2.1 y0.2.2.2.2.2.2.2.2.2.2.1 y0.2.2.2.2.2.2.2.2.2.2.2.1 y0.2.2.2.2.2.2.2.2.2.2.2.2.1 y0.2.2.2.2.2.2.2.2.2.2.2.2.2.1 y0.2.2.2.2.2.2.2.2.2.2.2.2.2.2.1 y0.2.2.2.2.2.2.2.2.2.2.2.2.2.2.2.1 y0.2.2.2.2.2.2.2.2.2.2.2.2.2.2.2.2.1 y0.2.2.2.2.2.2.2.2.2.2.2.2.2.2.2.2.2.1 y0.2.2.2.2.2.2.2.2.2.2.2.2.2.2.2.2.2.2.1 y0.2.2.2.2.2.2.2.2.2.2.2.2.2.2.2.2.2.2.2.1 y0.2.2.2.2.2.2.2.2.2.2.2.2.2.2.2.2.2.2.2.2.1 y0.2.2.2.2.2.2.2.2.2.2.2.2.2.2.2.2.2.2.2.2.2.1 y0.2.2.2.2.2.2.2.2.2.2.2.2.2.2.2.2.2.2.2.2.2.2.1 y0.2.2.2.2.2.2.2.2.2.2.2.2.2.2.2.2.2.2.2.2.2.2.2.1).bind fun y1 => ((y2j p y1).bind fun y2 => (bif (!y2) then some (false, cur) else ((y05 l2 p).bind fun y3 => (bif (inR y3 nw) then ((yw l2 p).bind fun y4 => (bif (inR y4 nw) then (bif (rd cur y3 == 0) then (bif (inR y0.2.2.2.2.2.2.2.2.2.2.2.2.2.2.2.2.2.2.2.2.2.2.2.1 nw) then (bif (rd cur y4 != 0) then ((y05 l2 (IntKind.i64.wrap (rd cur y4 - 1))).bind fun y5 => (bif (inR y5 nw) then ((yw l2 p).bind fun y6 => (bif (inR y6 nw) then ((y05 l2 p).bind fun y7 => (bif (inR y7 nw) then some (true, (wr (wr (wr (wr cur y0.2.2.2.2.2.2.2.2.2.2.2.2.2.2.2.2.2.2.2.2.2.2.2.1 (rd cur y4)) y5 (rd cur y3)) y6 0) y7 0)) else none)) else none)) else none)) else ((yw l2 p).bind fun y8 => (bif (inR y8 nw) then ((y05 l2 p).bind fun y9 => (bif (inR y9 nw) then some (true, (wr (wr (wr cur y0.2.2.2.2.2.2.2.2.2.2.2.2.2.2.2.2.2.2.2.2.2.2.2.1 (rd cur y4)) y8 0) y9 0)) else none)) else none))) else none) else ((yw l2 (IntKind.i64.wrap (rd cur y3 - 1))).bind fun y10 => (bif (inR y10 nw) then (bif (rd cur y4 != 0) then ((y05 l2 (IntKind.i64.wrap (rd cur y4 - 1))).bind fun y11 => (bif (inR y11 nw) then ((yw l2 p).bind fun y12 => (bif (inR y12 nw) then ((y05 l2 p).bind fun y13 => (bif (inR y13 nw) then some (true, (wr (wr (wr (wr cur y10 (rd cur y4)) y11 (rd cur y3)) y12 0) y13 0)) else none)) else none)) else none)) else ((yw l2 p).bind fun y14 => (bif (inR y14 nw) then ((y05 l2 p).bind fun y15 => (bif (inR y15 nw) then some (true, (wr (wr (wr cur y10 (rd cur y4)) y14 0) y15 0)) else none)) else none))) else none))) else none)) else none)))))))
def y4v (nw : Nat) (cur : List Int) (l2 : ya) (c f : Int) : Option (Int ⊕ Int) :=
  ((yl c).bind fun y0 => (bif (decide (f ≤ y0)) then ((y06 l2 c f).bind fun y1 => (bif (inR y1 nw) then (bif (decide (rd cur y1 > 0)) then some (.inr (IntKind.i64.wrap (rd cur y1 - 1))) else some (.inl (IntKind.i64.wrap (f + 1)))) else none)) else some (.inr (-1))))
def yd0 (nw : Nat) (cur : List Int) (l2 : ya) (c s : Int) : Option Int :=
  loopO (fun s => y4v nw cur l2 c s) s
def y1f (nw : Nat) (cur : List Int) (l2 : ya) (c : Int) : Option Int :=
  (yd0 nw cur l2 c 1)
attribute [local irreducible] Loop ex exF contK roundK retK at_ bodyOf mkEnv
theorem y4t : SpecOK Tryz.prog elTT 19 (y44 yu) := by
  refine spec_of_exF (cfg := yb8) (yg rfl rfl rfl) (yd (inlS_ok (cfg := { cfgB with sigs := (sigC 91 (inlS cfgB Tryz.f91) sigN) }) (yg rfl rfl rfl) (yd (inlS_ok (cfg := cfgB) (yg rfl rfl rfl) (nosig rfl) (by kernel_rfl) (by kernel_rfl) (by kernel_rfl)) yk) (by kernel_rfl) (by kernel_rfl) (by kernel_rfl)) yk) (fn := Tryz.f19) (by kernel_rfl) (by kernel_rfl) (by kernel_rfl) ?_
  intro args H K h
  change y8w yu args H K at h
  unfold y8w at h
  repeat first | (obtain ⟨_, h⟩ := h) | replace h := Des.el h
  subst_vars
  refine Eq.mpr (yii _ K) ?_
  unfold yu at h
  revert h
  exact br_So (fun h => h) (br_So (fun h => h) (req_So (br_So (fun h => h) (br_So (fun h => h) (br_So (fun h => h) (br_So (fun h => h) (br_So (fun h => h) (fun _ => trivial))))))))
theorem y4s : SpecOK Tryz.prog elTT 20 (y46 yl) := by
  refine spec_of_exF (cfg := (ybp yu)) (yg rfl rfl rfl) (yd y4t yk) (fn := Tryz.f20) (by kernel_rfl) (by kernel_rfl) (by kernel_rfl) ?_
  intro args H K h
  change y8u yl args H K at h
  unfold y8u at h
  repeat first | (obtain ⟨_, h⟩ := h) | replace h := Des.el h
  subst_vars
  refine Eq.mpr (yim yu _ K) ?_
  unfold yl at h
  revert h
  exact bind_So fun y0 => br_So (req_So (fun h => h)) (fun h => h)
theorem lpok_slices_Index_int_int_L1 (v : Int) (sv : List Int) (t7 t8 : Int) (K : V → Heap → Prop) : So (yao v sv t7 t8) (fun (x : Int) => K (vi x) [.row 0 sv true]) → Loop y34 (⟨19, 1⟩ : Cx) (at_ (bodyOf Tryz.f157) [1, 0, 1, 0, 0]) (mkEnv [(0, .row 0), (1, vi v), (7, vi t7), (8, vi t8)]) [.row 0 sv true] (contK y34 (⟨19, 1⟩ : Cx) (bodyOf Tryz.f157) [1, 0, 1, 0] (retK y34 Tryz.f157 1 K)) := by
  refine loopK_So (fun (s_ : Int) => (mkEnv [(0, .row 0), (1, vi v), (7, vi t7), (8, vi s_)])) (fun (s_ : Int) => [.row 0 sv true]) (fun (x : Int) => K (vi x) [.row 0 sv true]) ?_ t8
  intro s_ J1 h
  clear t8
  revert h; revert s_; intro t8 h
  refine Eq.mpr (yfz v sv t7 t8 K J1) ?_
  have h : So (y4c v sv t7 t8) _ := h
  unfold y4c at h
  revert h
  exact br_So (req_So (req_So (br_So (fun h => h) (fun h => h)))) (fun h => h)
theorem yfs : SpecOK Tryz.prog elTT 157 (yb1 y2v) := by
  refine spec_of_exF (cfg := y34) (yg rfl rfl rfl) yk (fn := Tryz.f157) (by kernel_rfl) (by kernel_rfl) (by kernel_rfl) ?_
  intro args H K h
  change y87 y2v args H K at h
  unfold y87 at h
  repeat first | (obtain ⟨_, h⟩ := h) | replace h := Des.el h
  subst_vars
  refine Eq.mpr (yfm _ _ K) ?_
  unfold y2v at h
  revert h
  exact lpok_slices_Index_int_int_L1 _ _ _ _ K
theorem yjl : SpecOK Tryz.prog elTT 136 (ybj y2j) := by
  refine spec_of_exF (cfg := (ycw y2v)) (yg rfl rfl rfl) (yd yfs yk) (fn := Tryz.f136) (by kernel_rfl) (by kernel_rfl) (by kernel_rfl) ?_
  intro args H K h
  change y5u y2j args H K at h
  unfold y5u at h
  repeat first | (obtain ⟨_, h⟩ := h) | replace h := Des.el h
  subst_vars
  refine Eq.mpr (yic y2v _ _ K) ?_
  unfold y2j at h
  revert h
  exact bind_So fun y0 => fun h => h
theorem ycq : SpecOK Tryz.prog elTT 135 (y93 y1c) := by
  refine spec_of_exF (cfg := (yan y06 yh)) (yg rfl rfl rfl) (yd yaz (yd y3m yk)) (fn := Tryz.f135) (by kernel_rfl) (by kernel_rfl) (by kernel_rfl) ?_
  intro args H K h
  change y90 y1c args H K at h
  unfold y90 at h
  repeat first | (obtain ⟨_, h⟩ := h) | replace h := Des.el h
  subst_vars
  refine Eq.mpr (yhq y06 yh _ _ _ _ _ _ _ K) ?_
  unfold y1c at h
  revert h
  exact alt_So (bind_So fun y0 => br_So (br_So (bind_So fun y1 => fun h => h) (fun h => h)) (fun h => h)) (bind_So fun y2 => br_So (br_So (bind_So fun y3 => fun h => h) (fun h => h)) (fun h => h))
theorem lpok_plist_list_pages_L1 (ws cur : List Int) (xs : List Value) (x_l_c_Workers x_l_c_CPUs : Int) (x_l_c_Pages x_l_c_Stripes : Int) (x_l_c_Tries x_l_c_Wait : Int) (x_l_c_Clock x_l_c_Private : Int) (x_l_c_Cache x_l_c_Bin : Int) (x_l_c_Batch x_l_at_0 : Int) (x_l_at_1 x_l_at_2 : Int) (x_l_at_3 x_l_at_4 : Int) (x_l_at_5 x_l_at_6 : Int) (x_l_at_7 x_l_at_8 : Int) (x_l_at_9 x_l_at_10 : Int) (x_l_at_11 x_head : Int) (left atv : Int) (w : List Int) (K : V → Heap → Prop) (hx : xs.length ≤ 2) : So (ybt ws.length cur x_l_c_Workers x_l_c_CPUs x_l_c_Pages x_l_c_Stripes x_l_c_Tries x_l_c_Wait x_l_c_Clock x_l_c_Private x_l_c_Cache x_l_c_Bin x_l_c_Batch x_l_at_0 x_l_at_1 x_l_at_2 x_l_at_3 x_l_at_4 x_l_at_5 x_l_at_6 x_l_at_7 x_l_at_8 x_l_at_9 x_l_at_10 x_l_at_11 (left, atv, w)) (fun (x : (List Int)) => K (.row 2) [.pk 0 [ws, cur] xs [.row 1], .row 0 ws true, .row 0 x false]) → Loop (y35 yh yw) (⟨37, 2⟩ : Cx) (at_ (bodyOf g_plist_list_pages) [1, 0, 1, 0]) (mkEnv [(1, .ptr 2 0), (3, .row 3), (4, vi left), (5, vi atv)]) [.pk 0 [ws, cur] xs [.row 1], .row 0 ws true, .cells 131 [.ptr 0 0, vi x_l_c_Workers, vi x_l_c_CPUs, vi x_l_c_Pages, vi x_l_c_Stripes, vi x_l_c_Tries, vi x_l_c_Wait, vi x_l_c_Clock, vi x_l_c_Private, vi x_l_c_Cache, vi x_l_c_Bin, vi x_l_c_Batch, vi x_l_at_0, vi x_l_at_1, vi x_l_at_2, vi x_l_at_3, vi x_l_at_4, vi x_l_at_5, vi x_l_at_6, vi x_l_at_7, vi x_l_at_8, vi x_l_at_9, vi x_l_at_10, vi x_l_at_11, vi x_head], .row 0 w false] (contK (y35 yh yw) (⟨37, 2⟩ : Cx) (bodyOf g_plist_list_pages) [1, 0, 1] (retK (y35 yh yw) g_plist_list_pages 2 K)) := by
  refine loopK_So (fun (s_ : Int × Int × (List Int)) => (mkEnv [(1, .ptr 2 0), (3, .row 3), (4, vi s_.1), (5, vi s_.2.1)])) (fun (s_ : Int × Int × (List Int)) => [.pk 0 [ws, cur] xs [.row 1], .row 0 ws true, .cells 131 [.ptr 0 0, vi x_l_c_Workers, vi x_l_c_CPUs, vi x_l_c_Pages, vi x_l_c_Stripes, vi x_l_c_Tries, vi x_l_c_Wait, vi x_l_c_Clock, vi x_l_c_Private, vi x_l_c_Cache, vi x_l_c_Bin, vi x_l_c_Batch, vi x_l_at_0, vi x_l_at_1, vi x_l_at_2, vi x_l_at_3, vi x_l_at_4, vi x_l_at_5, vi x_l_at_6, vi x_l_at_7, vi x_l_at_8, vi x_l_at_9, vi x_l_at_10, vi x_l_at_11, vi x_head], .row 0 (s_.2.2 : List Int) false]) (fun (x : (List Int)) => K (.row 2) [.pk 0 [ws, cur] xs [.row 1], .row 0 ws true, .row 0 x false]) ?_ (left, atv, w)
  intro s_ J1 h
  clear left
  clear atv
  clear w
  obtain ⟨left, atv, w⟩ := s_
  refine Eq.mpr (yeo yh yw ws cur xs x_l_c_Workers x_l_c_CPUs x_l_c_Pages x_l_c_Stripes x_l_c_Tries x_l_c_Wait x_l_c_Clock x_l_c_Private x_l_c_Cache x_l_c_Bin x_l_c_Batch x_l_at_0 x_l_at_1 x_l_at_2 x_l_at_3 x_l_at_4 x_l_at_5 x_l_at_6 x_l_at_7 x_l_at_8 x_l_at_9 x_l_at_10 x_l_at_11 x_head left atv w K J1) ?_
  have h : So (y4x ws.length cur x_l_c_Workers x_l_c_CPUs x_l_c_Pages x_l_c_Stripes x_l_c_Tries x_l_c_Wait x_l_c_Clock x_l_c_Private x_l_c_Cache x_l_c_Bin x_l_c_Batch x_l_at_0 x_l_at_1 x_l_at_2 x_l_at_3 x_l_at_4 x_l_at_5 x_l_at_6 x_l_at_7 x_l_at_8 x_l_at_9 x_l_at_10 x_l_at_11 left atv w) _ := h
  unfold y4x at h
  revert h
  exact br_So (fun h => h) (br_So (fun h => h) (req_So (bind_So fun y0 => andV hx (req_So (fun h => h)))))
theorem yis : SpecOK Tryz.prog elTT 137 (ybr y2l) := by
  refine spec_of_exG (cfg := (y35 yh yw)) (yg rfl rfl rfl) (yd y3m (yd rd_ok (yd y7n yk))) (fn := Tryz.f137) (l := 0) (B := 1000) (G := 1001) (r0 := at_ (bodyOf Tryz.f137) [0]) (c := gc_plist_list_pages) (rest := gr_plist_list_pages) (by kernel_rfl) (by kernel_rfl) (by kernel_rfl) (by kernel_rfl) (by kernel_rfl) (by kernel_rfl) rfl rfl rfl rfl ?_
  intro args H K h
  change y6x y2l args H K at h
  unfold y6x at h
  repeat first | (obtain ⟨_, h⟩ := h) | replace h := Des.el h
  subst_vars
  refine Eq.mpr (yep yh yw _ _ _ _ _ _ _ _ _ _ _ _ _ _ _ _ _ _ _ _ _ _ _ _ _ _ _ K) ?_
  unfold y2l at h
  revert h
  exact bind_So fun y0 => andV (by assumption) (req_So (br_So (fun h => h) (br_So (fun h => h) (bind_So fun y1 => andV (by assumption) (req_So (lpok_plist_list_pages_L1 _ _ _ _ _ _ _ _ _ _ _ _ _ _ _ _ _ _ _ _ _ _ _ _ _ _ _ _ _ _ K (by assumption)))))))
theorem ye8 : SpecOK Tryz.prog elTT 100 (ya3 y1o) := by
  refine spec_of_exF (cfg := (ycx y1c yw y05)) (yg rfl rfl rfl) (yd ycq (yd rd_ok (yd y7n (yd wr_ok (yd yd5 yk))))) (fn := Tryz.f100) (by kernel_rfl) (by kernel_rfl) (by kernel_rfl) ?_
  intro args H K h
  change y8f y1o args H K at h
  unfold y8f at h
  repeat first | (obtain ⟨_, h⟩ := h) | replace h := Des.el h
  subst_vars
  refine Eq.mpr (yg0 y1c yw y05 _ _ _ _ _ _ _ K) ?_
  unfold y1o at h
  revert h
  exact andV (by assumption) (bind_So fun y0 => br_So (fun h => h) (andV (by assumption) (req_So (bind_So fun y1 => andV (by assumption) (req_So (bind_So fun y2 => andV (by assumption) (req_So (br_So (bind_So fun y3 => andV (by assumption) (req_So (andV (by assumption) (req_So (fun h => h))))) (andV (by assumption) (req_So (fun h => h)))))))))))
theorem yjc : SpecOK Tryz.prog elTT 97 (yck y2d) := by
  refine spec_of_exF (cfg := (yah y1c y2l y2j y05 yw)) (yg rfl rfl rfl) (yd ycq (yd yis (yd yjl (yd yd5 (yd rd_ok (yd y7n (yd wr_ok yk))))))) (fn := Tryz.f97) (by kernel_rfl) (by kernel_rfl) (by kernel_rfl) ?_
  intro args H K h
  change y8k y2d args H K at h
  unfold y8k at h
  repeat first | (obtain ⟨_, h⟩ := h) | replace h := Des.el h
  subst_vars
  refine Eq.mpr (yj1 y1c y2l y2j y05 yw _ _ _ _ _ _ _ K) ?_
  unfold y2d at h
  revert h
  exact andV (by assumption) (bind_So fun y0 => br_So (fun h => h) (andV (by assumption) (bind_So fun y1 => bind_So fun y2 => br_So (fun h => h) (bind_So fun y3 => andV (by assumption) (req_So (bind_So fun y4 => andV (by assumption) (req_So (br_So (andV (by assumption) (req_So (br_So (bind_So fun y5 => andV (by assumption) (req_So (bind_So fun y6 => andV (by assumption) (req_So (bind_So fun y7 => andV (by assumption) (req_So (fun h => h))))))) (bind_So fun y8 => andV (by assumption) (req_So (bind_So fun y9 => andV (by assumption) (req_So (fun h => h)))))))) (bind_So fun y10 => andV (by assumption) (req_So (br_So (bind_So fun y11 => andV (by assumption) (req_So (bind_So fun y12 => andV (by assumption) (req_So (bind_So fun y13 => andV (by assumption) (req_So (fun h => h))))))) (bind_So fun y14 => andV (by assumption) (req_So (bind_So fun y15 => andV (by assumption) (req_So (fun h => h))))))))))))))))
theorem lpok_plist_First_L1 (ws cur : List Int) (xs : List Value) (l2 : ya) (c f : Int) (K : V → Heap → Prop) (hx : xs.length ≤ 2) : So (yd0 ws.length cur l2 c f) (fun (x : Int) => K (vi x) (hV ws cur xs)) → Loop (y2s yl y06) (⟨25, 2⟩ : Cx) (at_ (bodyOf Tryz.f52) [1, 0, 1, 0, 0]) (mkEnv [(0, .ptr 0 0), (2, vi c), (4, .ptr 2 0), (7, vi f)]) [.pk 0 [ws, cur] xs [.row 1], .row 0 ws true, .cells 28 (yc l2)] (contK (y2s yl y06) (⟨25, 2⟩ : Cx) (bodyOf Tryz.f52) [1, 0, 1, 0] (retK (y2s yl y06) Tryz.f52 2 K)) := by
  refine loopK_So (fun (s_ : Int) => (mkEnv [(0, .ptr 0 0), (2, vi c), (4, .ptr 2 0), (7, vi s_)])) (fun (s_ : Int) => [.pk 0 [ws, cur] xs [.row 1], .row 0 ws true, .cells 28 (yc l2)]) (fun (x : Int) => K (vi x) (hV ws cur xs)) ?_ f
  intro s_ J1 h
  clear f
  revert h; revert s_; intro f h
  refine Eq.mpr (ygg yl y06 ws cur xs l2 c f K J1) ?_
  have h : So (y4v ws.length cur l2 c f) _ := h
  unfold y4v at h
  revert h
  exact bind_So fun y0 => br_So (bind_So fun y1 => andV hx (req_So (br_So (fun h => h) (fun h => h)))) (fun h => h)
theorem ydn : SpecOK Tryz.prog elTT 52 (y9t y1f) := by
  refine spec_of_exF (cfg := (y2s yl y06)) (yg rfl rfl rfl) (yd y4s (yd yaz (yd rd_ok yk))) (fn := Tryz.f52) (by kernel_rfl) (by kernel_rfl) (by kernel_rfl) ?_
  intro args H K h
  change y9n y1f args H K at h
  unfold y9n at h
  repeat first | (obtain ⟨_, h⟩ := h) | replace h := Des.el h
  subst_vars
  refine Eq.mpr (yi8 yl y06 _ _ _ _ _ K) ?_
  unfold y1f at h
  revert h
  exact lpok_plist_First_L1 _ _ _ _ _ _ K (by assumption)
end Go.Rx
end

noncomputable section
namespace Go.Rx
open Go.Proofs
set_option maxRecDepth 100000
set_option maxHeartbeats 4000000
def y5m (l2 : yf) (p c f : Int) : Option Bool :=
  (bif (decide (p ≥ 0)) then (bif (decide (p < l2.C.Pages)) then ((y3z l2 c f).bind fun y0 => some (y0 != 0)) else some false) else some false)
def y7p (l2 : yf) (w : List Int) (atv n : Int) (w2 : List Int) : Option ((Int × Int × (List Int)) ⊕ (List Int)) :=
  (bif (decide (n < l2.C.Pages)) then (bif (decide (atv > 0)) then (bif (decide (w2.length + 1 ≤ 1048576)) then ((y3n l2 (IntKind.i64.wrap (atv - 1))).bind fun y0 => (bif (inR y0 w.length) then (bif (inR (offs y0 0) w.length) then some (.inl ((w.getD (offs y0 0).toNat 0), (IntKind.i64.wrap (n + 1)), (w2 ++ [IntKind.i64.wrap (atv - 1)]))) else none) else none)) else none) else some (.inr w2)) else some (.inr w2))
def yg7 (l2 : yf) (w : List Int) (s : Int × Int × (List Int)) : Option (List Int) :=
  loopO (fun s => y7p l2 w s.1 s.2.1 s.2.2) s
def y3k (l2 : yf) (c f : Int) (w : List Int) : Option (List Int) :=
  ((y3z l2 c f).bind fun y0 => (bif (y0 == 0) then some ([]) else (bif (inR y0 w.length) then (bif (inR (offs y0 0) w.length) then (yg7 l2 w ((w.getD (offs y0 0).toNat 0), 0, ([]))) else none) else none)))
def y8e (l2 : yf) (c f : Int) (pages : List Int) (iv : Int) (w2 : List Int) : Option ((Int × (List Int)) ⊕ (List Int)) :=
  (bif (decide (iv < (↑pages.length : Int))) then (bif (inR iv pages.length) then (bif (inR (offs iv 0) pages.length) then ((y3n l2 (pages.getD (offs iv 0).toNat 0)).bind fun y0 => (bif (inR y0 w2.length) then (bif (inR (offs y0 0) w2.length) then ((y4a l2 (pages.getD (offs iv 0).toNat 0)).bind fun y1 => (bif (inR y1 (List.length (List.set w2 (offs y0 0).toNat 0))) then (bif (inR (offs y1 0) (List.length (List.set w2 (offs y0 0).toNat 0))) then (bif (iv == 0) then ((y3z l2 c f).bind fun y2 => (bif (inR y2 (List.length (List.set (List.set w2 (offs y0 0).toNat 0) (offs y1 0).toNat 0))) then (bif (inR (offs y2 0) (List.length (List.set (List.set w2 (offs y0 0).toNat 0) (offs y1 0).toNat 0))) then (bif (decide (IntKind.i64.wrap (iv + 1) < (↑pages.length : Int))) then (bif (inR (IntKind.i64.wrap (iv + 1)) pages.length) then (bif (inR (offs (IntKind.i64.wrap (iv + 1)) 0) pages.length) then ((y3n l2 (pages.getD (offs iv 0).toNat 0)).bind fun y3 => (bif (inR y3 (List.length (List.set (List.set (List.set w2 (offs y0 0).toNat 0) (offs y1 0).toNat 0) (offs y2 0).toNat (IntKind.i64.wrap (pages.getD (offs iv 0).toNat 0 + 1))))) then (bif (inR (offs y3 0) (List.length (List.set (List.set (List.set w2 (offs y0 0).toNat 0) (offs y1 0).toNat 0) (offs y2 0).toNat (IntKind.i64.wrap (pages.getD (offs iv 0).toNat 0 + 1))))) then some (.inl ((IntKind.i64.wrap (iv + 1)), (List.set (List.set (List.set (List.set w2 (offs y0 0).toNat 0) (offs y1 0).toNat 0) (offs y2 0).toNat (IntKind.i64.wrap (pages.getD (offs iv 0).toNat 0 + 1))) (offs y3 0).toNat (IntKind.i64.wrap (pages.getD (Int.toNat (offs (IntKind.i64.wrap (iv + 1)) 0)) 0 + 1))))) else none) else none)) else none) else none) else some (.inl ((IntKind.i64.wrap (iv + 1)), (List.set (List.set (List.set w2 (offs y0 0).toNat 0) (offs y1 0).toNat 0) (offs y2 0).toNat (IntKind.i64.wrap (pages.getD (offs iv 0).toNat 0 + 1)))))) else none) else none)) else (bif (inR (IntKind.i64.wrap (iv - 1)) pages.length) then (bif (inR (offs (IntKind.i64.wrap (iv - 1)) 0) pages.length) then ((y4a l2 (pages.getD (offs iv 0).toNat 0)).bind fun y4 => (bif (inR y4 (List.length (List.set (List.set w2 (offs y0 0).toNat 0) (offs y1 0).toNat 0))) then (bif (inR (offs y4 0) (List.length (List.set (List.set w2 (offs y0 0).toNat 0) (offs y1 0).toNat 0))) then (bif (decide (IntKind.i64.wrap (iv + 1) < (↑pages.length : Int))) then (bif (inR (IntKind.i64.wrap (iv + 1)) pages.length) then (bif (inR (offs (IntKind.i64.wrap (iv + 1)) 0) pages.length) then ((y3n l2 (pages.getD (offs iv 0).toNat 0)).bind fun y5 => (bif (inR y5 (List.length (List.set (List.set (List.set w2 (offs y0 0).toNat 0) (offs y1 0).toNat 0) (offs y4 0).toNat (IntKind.i64.wrap (pages.getD (Int.toNat (offs (IntKind.i64.wrap (iv - 1)) 0)) 0 + 1))))) then (bif (inR (offs y5 0) (List.length (List.set (List.set (List.set w2 (offs y0 0).toNat 0) (offs y1 0).toNat 0) (offs y4 0).toNat (IntKind.i64.wrap (pages.getD (Int.toNat (offs (IntKind.i64.wrap (iv - 1)) 0)) 0 + 1))))) then some (.inl ((IntKind.i64.wrap (iv + 1)), (List.set (List.set (List.set (List.set w2 (offs y0 0).toNat 0) (offs y1 0).toNat 0) (offs y4 0).toNat (IntKind.i64.wrap (pages.getD (Int.toNat (offs (IntKind.i64.wrap (iv - 1)) 0)) 0 + 1))) (offs y5 0).toNat (IntKind.i64.wrap (pages.getD (Int.toNat (offs (IntKind.i64.wrap (iv + 1)) 0)) 0 + 1))))) else none) else none)) else none) else none) else some (.inl ((IntKind.i64.wrap (iv + 1)), (List.set (List.set (List.set w2 (offs y0 0).toNat 0) (offs y1 0).toNat 0) (offs y4 0).toNat (IntKind.i64.wrap (pages.getD (Int.toNat (offs (IntKind.i64.wrap (iv - 1)) 0)) 0 + 1)))))) else none) else none)) else none) else none)) else none) else none)) else none) else none)) else none) else none) else some (.inr w2))
def yik (l2 : yf) (c f : Int) (pages : List Int) (s : Int × (List Int)) : Option (List Int) :=
  loopO (fun s => y8e l2 c f pages s.1 s.2) s
def y5i (l2 : yf) (c f : Int) (w pages : List Int) : Option (List Int) :=
  ((y3z l2 c f).bind fun y0 => (bif (inR y0 w.length) then (bif (inR (offs y0 0) w.length) then (yik l2 c f pages (0, (List.set w (offs y0 0).toNat 0))) else none) else none))
def y45 (l2 : yf) (p c f : Int) (w : List Int) : Option (Bool × (List Int)) :=
  ((y5m l2 p c f).bind fun y0 => (bif (!y0) then some (false, w) else ((y3k l2 c f w).bind fun y3 => (bif (decide (1 + y3.length ≤ 1048576)) then ((y5i l2 c f w (p :: y3)).bind fun y4 => some (true, y4)) else none))))
def y6k (l2 : yf) (p c f : Int) (w w3 : List Int) (iv : Int) (w2 : List Int) : Option ((Int × (List Int)) ⊕ (Bool × (List Int))) :=
  (bif (decide (iv < (↑w3.length : Int))) then (bif (inR iv w3.length) then (bif (inR (offs iv 0) w3.length) then (bif (w3.getD (offs iv 0).toNat 0 != p) then (bif (inR iv w3.length) then (bif (inR (offs iv 0) w3.length) then (bif (decide (w2.length + 1 ≤ 1048576)) then some (.inl ((IntKind.i64.wrap (iv + 1)), (w2 ++ [w3.getD (offs iv 0).toNat 0]))) else none) else none) else none) else some (.inl ((IntKind.i64.wrap (iv + 1)), w2))) else none) else none) else (bif ((↑w2.length : Int) == (↑w3.length : Int)) then some (.inr (false, w)) else ((y3n l2 p).bind fun y0 => (bif (inR y0 w.length) then (bif (inR (offs y0 0) w.length) then ((y4a l2 p).bind fun y1 => (bif (inR y1 (List.length (List.set w (offs y0 0).toNat 0))) then (bif (inR (offs y1 0) (List.length (List.set w (offs y0 0).toNat 0))) then ((y5i l2 c f (List.set (List.set w (offs y0 0).toNat 0) (offs y1 0).toNat 0) w2).bind fun y2 => some (.inr (true, y2))) else none) else none)) else none) else none))))
def yfy (l2 : yf) (p c f : Int) (w w3 : List Int) (s : Int × (List Int)) : Option (Bool × (List Int)) :=
  loopO (fun s => y6k l2 p c f w w3 s.1 s.2) s
def y54 (l2 : yf) (p c f : Int) (w : List Int) : Option (Bool × (List Int)) :=
  ((y5m l2 p c f).bind fun y0 => (bif (!y0) then some (false, w) else ((y3k l2 c f w).bind fun y1 => (yfy l2 p c f w y1 (0, ([]))))))
def y8y (l2 : yf) (c : Int) (w : List Int) (f : Int) : Option (Int ⊕ Int) :=
  (bif (decide (f ≤ 32)) then ((y3k l2 c f w).bind fun y0 => (bif (decide ((↑y0.length : Int) > 0)) then (bif (inR 0 y0.length) then (bif (inR (offs 0 0) y0.length) then some (.inr (y0.getD 0 0)) else none) else none) else some (.inl (IntKind.i64.wrap (f + 1))))) else some (.inr (-1)))
def yi7 (l2 : yf) (c : Int) (w : List Int) (s : Int) : Option Int :=
  loopO (fun s => y8y l2 c w s) s
def y51 (l2 : yf) (c : Int) (w : List Int) : Option Int :=
  (yi7 l2 c w 1)
attribute [local irreducible] Loop ex exF contK roundK retK at_ bodyOf mkEnv
end Go.Rx
end

section
namespace Go.Rx
open Go.Proofs
theorem offs_nn {a : Int} (h : 0 ≤ a) : offs a 0 = a := by
  have e : a = ((a.toNat : Nat) : Int) := by omega
  rw [e]; rfl
theorem take_snoc {xs : List Int} {i : Nat} (h : i < xs.length) : xs.take (i + 1) = xs.take i ++ [xs.getD i 0] := by
  rw [List.take_add_one]; simp [List.getD, h]
section
variable {L : ya} {nw : Nat} {cur : List Int}
theorem LayOK.geo {L : ya} (h : LayOK L) : 1 ≤ L.at_4 ∧ L.at_5 = L.at_4 + L.c.Pages ∧ L.at_6 = L.at_4 + 2 * L.c.Pages ∧ L.at_6 + 62 ≤ L.at_11 := by
  have := h.a0; have := h.a1; have := h.a4; have := h.a5; have := h.a6; have := h.a7; have := h.a8b; have := h.a9; have := h.a11; have := h.big; have := h.stripes; have := h.pages; have := h.bin
  omega
theorem VOK.geoA (v : VOK L nw cur) : GeoA L.at_4 L.c.Pages nw := by
  have := v.lay.geo; have := v.all; have := v.lay.pages
  exact ⟨by omega, v.lay.pages, by omega⟩
theorem lHead_is (h : LayOK L) {c f : Int} (k : isL c f) : lHead L c f = hdI (L.at_4 + 2 * L.c.Pages) c f := by
  have := h.geo
  unfold lHead; rw [if_pos (show (0 ≤ c ∧ c < 5) ∧ 1 ≤ f ∧ f ≤ slotsI c from k)]; unfold hdI
  have e : slotsI c = slotsC c := rfl
  omega
theorem lHead_no {c f : Int} (k : ¬ isL c f) : lHead L c f = 0 := by unfold lHead; rw [if_neg (show ¬ ((0 ≤ c ∧ c < 5) ∧ 1 ≤ f ∧ f ≤ slotsI c) from k)]
theorem lHead_ne (h : LayOK L) {c f : Int} (k : isL c f) : lHead L c f ≠ 0 := by
  have := h.geo; have := h.pages
  have := hd_in (hb := L.at_4 + 2 * L.c.Pages) k
  rw [lHead_is h k]; omega
theorem nx_is {p : Int} (h : 0 ≤ p ∧ p < L.c.Pages) : lPg L L.at_4 p = L.at_4 + p := by unfold lPg; rw [if_pos h]
theorem pv_is (k : LayOK L) {p : Int} (h : 0 ≤ p ∧ p < L.c.Pages) : lPg L L.at_5 p = L.at_4 + L.c.Pages + p := by
  have := k.geo
  unfold lPg; rw [if_pos h]; omega
theorem Size_eq (c : Int) : yu c = some (if c = 0 then 1 else if c = 1 then 2 else if c = 2 then 4 else if c = 3 then 8 else if c = 4 then 16 else 0) := by
  unfold yu
  by_cases a : c < 0
  · rw [decide_eq_true a, if_neg (by omega), if_neg (by omega), if_neg (by omega), if_neg (by omega), if_neg (by omega)]; rfl
  · rw [decide_eq_false a]
    by_cases b : 5 ≤ c
    · rw [decide_eq_true (show c ≥ 5 from b), if_neg (by omega), if_neg (by omega), if_neg (by omega), if_neg (by omega), if_neg (by omega)]; rfl
    · rw [decide_eq_false (show ¬ c ≥ 5 from b)]
      have e : c = 0 ∨ c = 1 ∨ c = 2 ∨ c = 3 ∨ c = 4 := by omega
      rcases e with rfl | rfl | rfl | rfl | rfl <;> rfl
theorem Slots_eq (c : Int) : yl c = some (slotsC c) := by
  unfold yl
  rw [Size_eq]
  unfold slotsC
  by_cases c0 : c = 0
  · subst c0; rfl
  by_cases c1 : c = 1
  · subst c1; rfl
  by_cases c2 : c = 2
  · subst c2; rfl
  by_cases c3 : c = 3
  · subst c3; rfl
  by_cases c4 : c = 4
  · subst c4; rfl
  rw [if_neg c0, if_neg c1, if_neg c2, if_neg c3, if_neg c4, if_neg c0, if_neg c1, if_neg c2, if_neg c3, if_neg c4]; rfl
theorem of_eq (h : LayOK L) (p c f : Int) : y1c nw cur L p c f = some (L.c.Workers, L.c.CPUs, L.c.Pages, L.c.Stripes, L.c.Tries, L.c.Wait, L.c.Clock, L.c.Private, L.c.Cache, L.c.Bin, L.c.Batch, L.at_0, L.at_1, L.at_2, L.at_3, L.at_4, L.at_5, L.at_6, L.at_7, L.at_8, L.at_9, L.at_10, L.at_11, lHead L c f, decide (isL c f ∧ 0 ≤ p ∧ p < L.c.Pages)) := by
  unfold y1c
  rw [Head_eq h, Option.bind_some]
  by_cases a : isL c f
  · have e : (lHead L c f != 0) = true := by simpa using lHead_ne h a
    rw [e, cond_true]
    by_cases b : 0 ≤ p
    · rw [decide_eq_true (show p ≥ 0 from b), cond_true, Config_eq, Option.bind_some]
      have e2 : (isL c f ∧ 0 ≤ p ∧ p < L.c.Pages) ↔ p < (cOf L).Pages := ⟨fun x => x.2.2, fun x => ⟨a, b, x⟩⟩
      simp only [e2]
    · rw [decide_eq_false (show ¬ p ≥ 0 from b), cond_false, decide_eq_false (fun x => b x.2.1)]
  · have e : (lHead L c f != 0) = false := by rw [lHead_no a]; rfl
    rw [e, cond_false, decide_eq_false (fun x => a x.1)]
theorem pages_eq (v : VOK L nw cur) {h : Int} {xs : List Int} (g : Geo L.at_4 L.c.Pages nw h) (l : Lst L.at_4 L.c.Pages cur h xs) : y2l nw cur L.c.Workers L.c.CPUs L.c.Pages L.c.Stripes L.c.Tries L.c.Wait L.c.Clock L.c.Private L.c.Cache L.c.Bin L.c.Batch L.at_0 L.at_1 L.at_2 L.at_3 L.at_4 L.at_5 L.at_6 L.at_7 L.at_8 L.at_9 L.at_10 L.at_11 h = some xs := by
  have hpg := v.lay.pages
  obtain ⟨g1, g2, g3⟩ := g
  have hle := l.len (by omega)
  have hN : ∀ x, yw (ya.mk (yb.mk L.c.Workers L.c.CPUs L.c.Pages L.c.Stripes L.c.Tries L.c.Wait L.c.Clock L.c.Private L.c.Cache L.c.Bin L.c.Batch) L.at_0 L.at_1 L.at_2 L.at_3 L.at_4 L.at_5 L.at_6 L.at_7 L.at_8 L.at_9 L.at_10 L.at_11) x = some (lPg L L.at_4 x) := fun x => Next_eq v.lay x
  have hC : yh (ya.mk (yb.mk L.c.Workers L.c.CPUs L.c.Pages L.c.Stripes L.c.Tries L.c.Wait L.c.Clock L.c.Private L.c.Cache L.c.Bin L.c.Batch) L.at_0 L.at_1 L.at_2 L.at_3 L.at_4 L.at_5 L.at_6 L.at_7 L.at_8 L.at_9 L.at_10 L.at_11) = some L.c := rfl
  have hat : ∀ i, i < xs.length → nxV xs i - 1 = xs.getD i 0 := fun i hi => by rw [nxV_at hi]; omega
  have hrd : ∀ i, i < xs.length → lPg L L.at_4 (xs.getD i 0) = L.at_4 + xs.getD i 0 ∧ inR (L.at_4 + xs.getD i 0) nw = true ∧ rd cur (L.at_4 + xs.getD i 0) = nxV xs (i + 1) := fun i hi => by
    have hb := l.inn _ (getD_mem hi)
    exact ⟨nx_is hb, inR_int (by omega) (by omega), l.next i hi⟩
  have hbd : ∀ i, i < xs.length → 1 ≤ nxV xs i ∧ nxV xs i ≤ 256 := fun i hi => by
    have hb := l.inn _ (getD_mem hi)
    rw [nxV_at hi]; omega
  have hhd : rd cur h = nxV xs 0 := l.head
  unfold y2l
  rw [hC, Option.bind_some, inR_int (by omega) (by omega), cond_true, hhd]
  by_cases c0 : 0 < xs.length
  · have h1 := hbd 0 c0
    rw [decide_eq_false (by omega), cond_false]
    have e0 : (L.c.Pages == 0) = false := by simp; omega
    rw [e0, cond_false, wrap_id (by omega) (by omega), hat 0 c0, hN, Option.bind_some, (hrd 0 c0).1, (hrd 0 c0).2.1, cond_true, (hrd 0 c0).2.2, wrap_id (by omega) (by omega)]
    obtain ⟨r, h2, rfl⟩ := loopO_ind (step := fun s : Int × Int × List Int => y4x nw cur L.c.Workers L.c.CPUs L.c.Pages L.c.Stripes L.c.Tries L.c.Wait L.c.Clock L.c.Private L.c.Cache L.c.Bin L.c.Batch L.at_0 L.at_1 L.at_2 L.at_3 L.at_4 L.at_5 L.at_6 L.at_7 L.at_8 L.at_9 L.at_10 L.at_11 s.1 s.2.1 s.2.2)
      (I := fun s => ∃ i : Nat, 1 ≤ i ∧ i ≤ xs.length ∧ s = (L.c.Pages - i, nxV xs i, xs.take i)) (μ := fun s => s.1.toNat) (fun r => r = xs) (by
        rintro _ ⟨i, hi1, hi2, rfl⟩
        simp only [y4x]
        by_cases c : i < xs.length
        · have h3 := hbd i c
          have e1 : (L.c.Pages - (i : Int) == 0) = false := by simp; omega
          rw [decide_eq_false (by omega), cond_false, e1, cond_false, decide_eq_true (by rw [List.length_take]; omega), cond_true, wrap_id (by omega) (by omega), hat i c, hN, Option.bind_some, (hrd i c).1, (hrd i c).2.1, cond_true, (hrd i c).2.2, wrap_id (by omega) (by omega)]
          refine .inl ⟨_, rfl, ⟨i + 1, by omega, c, ?_⟩, by simp only; omega⟩
          rw [take_snoc c]
          congr 1; omega
        · have e : i = xs.length := by omega
          subst e
          rw [nxV_end (Nat.le_refl _), decide_eq_true (by omega), cond_true, List.take_length]
          exact .inr ⟨_, rfl, rfl⟩) (L.c.Pages - 1, nxV xs 1, [xs.getD 0 0]) ⟨1, by omega, c0, by
            rw [show (1 : Nat) = 0 + 1 from rfl, take_snoc c0]; simp⟩
    exact h2
  · have : xs = [] := by cases xs with | nil => rfl | cons x r => simp at c0
    subst this
    rw [nxV_end (by simp), decide_eq_true (by omega), cond_true]
theorem Link_eq (v : VOK L nw cur) {p c f : Int} {xs : List Int} (l : isL c f → Lst L.at_4 L.c.Pages cur (hdI (L.at_4 + 2 * L.c.Pages) c f) xs) : y1o nw cur L p c f =
    some (if isL c f ∧ 0 ≤ p ∧ p < L.c.Pages then (true, linkW L.at_4 L.c.Pages cur (hdI (L.at_4 + 2 * L.c.Pages) c f) p) else (false, cur)) := by
  have hpg := v.lay.pages
  unfold y1o
  rw [of_eq v.lay, Option.bind_some]
  simp only
  by_cases a : isL c f ∧ 0 ≤ p ∧ p < L.c.Pages
  · rw [decide_eq_true a, if_pos a, Bool.not_true, cond_false]
    obtain ⟨a1, a2, a3⟩ := a
    have l := l a1
    have g := v.geoA.geo a1
    rw [lHead_is v.lay a1]
    obtain ⟨g1, g2, g3⟩ := g
    generalize hdI (L.at_4 + 2 * L.c.Pages) c f = h at *
    have hN := Next_eq v.lay; have hP := Prev_eq v.lay
    have ih : inR h nw = true := inR_int (by omega) (by omega)
    have i1 : inR (L.at_4 + p) nw = true := inR_int (by omega) (by omega)
    have i2 : inR (L.at_4 + L.c.Pages + p) nw = true := inR_int (by omega) (by omega)
    have hrd : rd cur h = wd cur h := rfl
    simp only [ih, cond_true, hN, hP, Option.bind_some, nx_is ⟨a2, a3⟩, pv_is v.lay ⟨a2, a3⟩, i1, i2, hrd]
    rw [wrap_id (x := p + 1) (by omega) (by omega)]
    unfold linkW
    dsimp only
    by_cases c0 : wd cur h = 0
    · have e : (wd cur h != 0) = false := by rw [c0]; rfl
      rw [e, cond_false, if_pos c0]; rfl
    · have e : (wd cur h != 0) = true := by simpa using c0
      rw [e, cond_true, if_neg c0]
      have hr : 0 < xs.length := by
        have := (nxV_pos l 0).2; have := l.head; omega
      have hb := l.inn _ (getD_mem hr)
      have h0 := l.head
      rw [nxV_at hr] at h0
      rw [wrap_id (x := wd cur h - 1) (by omega) (by omega), pv_is v.lay (by omega), inR_int (by omega) (by omega), cond_true]; rfl
  · rw [decide_eq_false a, if_neg a]; rfl
theorem Index_eq {xs : List Int} (p : Int) (hl : xs.length ≤ 4611686018427387904) : ∃ k, y2v p xs = some k ∧ ((k = -1 ∧ p ∉ xs) ∨ ∃ i : Nat, k = i ∧ i < xs.length ∧ xs.getD i 0 = p) := by
  obtain ⟨r, h1, h2⟩ := loopO_ind (step := fun s : Int => y4c p xs (xs.length : Int) s)
    (I := fun s => ∃ i : Nat, s = i ∧ i ≤ xs.length ∧ ∀ j, j < i → xs.getD j 0 ≠ p) (μ := fun s => xs.length - s.toNat) (fun k => (k = -1 ∧ p ∉ xs) ∨ ∃ i : Nat, k = i ∧ i < xs.length ∧ xs.getD i 0 = p) (by
      rintro _ ⟨i, rfl, hi, hno⟩
      simp only [y4c]
      by_cases c : i < xs.length
      · have ho : offs (i : Int) 0 = (i : Int) := rfl
        rw [decide_eq_true (show (i : Int) < (xs.length : Int) by omega), cond_true, inR_nat c, cond_true, ho, inR_nat c, cond_true, Int.toNat_natCast]
        by_cases e : xs.getD i 0 = p
        · have e2 : (p == xs.getD i 0) = true := by rw [e]; exact beq_self_eq_true p
          rw [e2, cond_true]
          exact .inr ⟨_, rfl, .inr ⟨i, rfl, c, e⟩⟩
        · have e2 : (p == xs.getD i 0) = false := by simp; exact fun h => e h.symm
          rw [e2, cond_false, wrap_succ (by omega)]
          refine .inl ⟨_, rfl, ⟨i + 1, rfl, c, fun j hj => ?_⟩, by omega⟩
          by_cases d : j = i
          · rw [d]; exact e
          · exact hno j (by omega)
      · rw [decide_eq_false (by omega), cond_false]
        refine .inr ⟨_, rfl, .inl ⟨rfl, fun hm => ?_⟩⟩
        obtain ⟨j, hj, e⟩ := mem_getD hm
        exact hno j (by omega) e) 0 ⟨0, rfl, by omega, fun j hj => by omega⟩
  exact ⟨r, h1, h2⟩
theorem Contains_eq {xs : List Int} (p : Int) (hl : xs.length ≤ 4611686018427387904) : y2j p xs = some (decide (p ∈ xs)) := by
  obtain ⟨k, h1, h2⟩ := Index_eq p hl
  unfold y2j
  rw [h1, Option.bind_some]
  rcases h2 with ⟨rfl, h2⟩ | ⟨i, rfl, h2, h3⟩
  · rw [decide_eq_false h2]; rfl
  · have hm : p ∈ xs := by rw [← h3]; exact getD_mem h2
    rw [decide_eq_true hm, decide_eq_true (by omega)]
theorem Unlink_eq (v : VOK L nw cur) {p c f : Int} {xs : List Int} (l : isL c f → Lst L.at_4 L.c.Pages cur (hdI (L.at_4 + 2 * L.c.Pages) c f) xs) : y2d nw cur L p c f =
    some (if isL c f ∧ p ∈ xs then (true, unlinkW L.at_4 L.c.Pages cur (hdI (L.at_4 + 2 * L.c.Pages) c f) p) else (false, cur)) := by
  have hpg := v.lay.pages
  unfold y2d
  rw [of_eq v.lay, Option.bind_some]
  simp only
  by_cases a1 : isL c f
  · have l := l a1
    have g := v.geoA.geo a1
    by_cases a : 0 ≤ p ∧ p < L.c.Pages
    · rw [decide_eq_true ⟨a1, a⟩, Bool.not_true, cond_false]
      have hle := l.len (by omega)
      rw [lHead_is v.lay a1, pages_eq v g l, Option.bind_some, Contains_eq p (by omega), Option.bind_some]
      by_cases m : p ∈ xs
      · rw [decide_eq_true m, if_pos ⟨a1, m⟩, Bool.not_true, cond_false]
        obtain ⟨k, hk, rfl⟩ := mem_getD m
        obtain ⟨g1, g2, g3⟩ := g
        generalize hdI (L.at_4 + 2 * L.c.Pages) c f = h at *
        have hN := Next_eq v.lay; have hP := Prev_eq v.lay
        have ih : inR h nw = true := inR_int (by omega) (by omega)
        have i1 : inR (L.at_4 + xs.getD k 0) nw = true := inR_int (by omega) (by omega)
        have i2 : inR (L.at_4 + L.c.Pages + xs.getD k 0) nw = true := inR_int (by omega) (by omega)
        have hrd : ∀ a, rd cur a = wd cur a := fun _ => rfl
        simp only [ih, cond_true, hN, hP, Option.bind_some, nx_is a, pv_is v.lay a, i1, i2, hrd]
        unfold unlinkW
        dsimp only
        have ea := l.prev k hk
        have eb := l.next k hk
        have hA : wd cur (L.at_4 + L.c.Pages + xs.getD k 0) ≠ 0 → 0 ≤ wd cur (L.at_4 + L.c.Pages + xs.getD k 0) - 1 ∧ wd cur (L.at_4 + L.c.Pages + xs.getD k 0) - 1 < L.c.Pages := fun h0 => by
          rw [ea] at h0 ⊢
          cases k with
          | zero => exact (h0 (pvV_zero _)).elim
          | succ j =>
            have := l.inn _ (getD_mem (i := j) (by omega))
            rw [pvV_succ, nxV_at (by omega)]; omega
        have hB : wd cur (L.at_4 + xs.getD k 0) ≠ 0 → 0 ≤ wd cur (L.at_4 + xs.getD k 0) - 1 ∧ wd cur (L.at_4 + xs.getD k 0) - 1 < L.c.Pages := fun h0 => by
          rw [eb] at h0 ⊢
          have hlt : k + 1 < xs.length := by
            have := (nxV_pos l (k + 1)).2; omega
          have := l.inn _ (getD_mem hlt)
          rw [nxV_at hlt]; omega
        generalize wd cur (L.at_4 + L.c.Pages + xs.getD k 0) = av at *
        generalize wd cur (L.at_4 + xs.getD k 0) = bv at *
        generalize xs.getD k 0 = q at *
        by_cases c0 : av = 0
        · have e : (av == 0) = true := by rw [c0]; rfl
          rw [e, cond_true, if_pos c0]
          by_cases d0 : bv = 0
          · have e2 : (bv != 0) = false := by rw [d0]; rfl
            rw [e2, cond_false, if_pos d0]; rfl
          · have e2 : (bv != 0) = true := by simpa using d0
            have hb := hB d0
            rw [e2, cond_true, if_neg d0, wrap_id (x := bv - 1) (by omega) (by omega), pv_is v.lay hb, inR_int (by omega) (by omega), cond_true]; rfl
        · have e : (av == 0) = false := by simpa using c0
          have ha := hA c0
          rw [e, cond_false, if_neg c0, wrap_id (x := av - 1) (by omega) (by omega), nx_is ha, inR_int (i := L.at_4 + (av - 1)) (by omega) (by omega), cond_true]
          by_cases d0 : bv = 0
          · have e2 : (bv != 0) = false := by rw [d0]; rfl
            rw [e2, cond_false, if_pos d0]; rfl
          · have e2 : (bv != 0) = true := by simpa using d0
            have hb := hB d0
            rw [e2, cond_true, if_neg d0, wrap_id (x := bv - 1) (by omega) (by omega), pv_is v.lay hb, inR_int (by omega) (by omega), cond_true]; rfl
      · rw [decide_eq_false m, if_neg (fun x => m x.2)]; rfl
    · rw [decide_eq_false (fun x => a x.2), if_neg (fun x => a (l.inn p x.2))]; rfl
  · rw [decide_eq_false (fun x => a1 x.1), if_neg (fun x => a1 x.1)]; rfl
def lsOf (ls : Int → Int → List Int) (c f : Int) : List Int := if isL c f then ls c f else []
theorem pFirst_eq (v : VOK L nw cur) {c : Int} {ls : Int → Int → List Int} (l : ∀ f, isL c f → Lst L.at_4 L.c.Pages cur (hdI (L.at_4 + 2 * L.c.Pages) c f) (ls c f)) : y1f nw cur L c = some (firstF ls c 1 (slotsC c).toNat) := by
  have hs := slotsC_le c
  refine loopO_fun (step := fun s : Int => y4v nw cur L c s) (I := fun f => 1 ≤ f ∧ f ≤ slotsC c + 1) (fun f => (slotsC c + 1 - f).toNat) (fun f => firstF ls c f (slotsC c + 1 - f).toNat) (fun f hf => ?_) 1 ⟨by omega, by omega⟩ |>.trans (by congr 2; omega)
  simp only [y4v, Slots_eq, Option.bind_some]
  by_cases c0 : f ≤ slotsC c
  · have hc : 0 ≤ c ∧ c < 5 := by
      unfold slotsC at c0
      by_cases h : 0 ≤ c ∧ c < 5
      · exact h
      · rw [if_neg (by omega), if_neg (by omega), if_neg (by omega), if_neg (by omega), if_neg (by omega)] at c0; omega
    have k : isL c f := ⟨hc, hf.1, c0⟩
    have hl := l f k
    obtain ⟨g1, g2, g3⟩ := v.geoA.geo k
    have hh : rd cur (hdI (L.at_4 + 2 * L.c.Pages) c f) = nxV (ls c f) 0 := hl.head
    rw [decide_eq_true c0, cond_true, Head_eq v.lay, Option.bind_some, lHead_is v.lay k, inR_int (by omega) (by omega), cond_true, hh]
    have hn : (slotsC c + 1 - f).toNat = (slotsC c + 1 - (f + 1)).toNat + 1 := by omega
    cases hx : ls c f with
    | nil =>
      rw [nxV_end (by simp), decide_eq_false (by omega), cond_false, wrap_id (by omega) (by omega)]
      refine .inl ⟨_, rfl, ⟨by omega, by omega⟩, by omega, ?_⟩
      rw [hn]; simp only [firstF, hx]
    | cons x r =>
      have hb := hl.inn x (by rw [hx]; simp)
      have e : nxV (x :: r) 0 = x + 1 := by simp [nxV]
      rw [e, decide_eq_true (by omega), cond_true, wrap_id (by omega) (by omega)]
      refine .inr ?_
      rw [hn]; simp only [firstF, hx]
      congr 2; omega
  · rw [decide_eq_false c0, cond_false]
    refine .inr ?_
    have : (slotsC c + 1 - f).toNat = 0 := by omega
    rw [this]; rfl
end
end Go.Rx
end

section
namespace Go.Rx
open Go.Proofs
theorem rSlots0 : y3g 0 = some 32 := loopO_end rfl
theorem rSlots1 : y3g 1 = some 16 := (loopO_go rfl).trans (loopO_end rfl)
theorem rSlots2 : y3g 2 = some 8 := (loopO_go rfl).trans ((loopO_go rfl).trans (loopO_end rfl))
theorem rSlots3 : y3g 3 = some 4 := (loopO_go rfl).trans ((loopO_go rfl).trans ((loopO_go rfl).trans (loopO_end rfl)))
theorem rSlots4 : y3g 4 = some 2 := (loopO_go rfl).trans ((loopO_go rfl).trans ((loopO_go rfl).trans ((loopO_go rfl).trans (loopO_end rfl))))
section
variable {c : yb}
theorem rHead_end (h : RightC c) {q f ahead : Int} (hq : 0 ≤ q ∧ q < 5) (hs : y3g q = some (slotsI q)) (ha : ahead = 64 - 2 * slotsI q) :
    y4y ⟨c⟩ q f ahead q = some (.inr (lHead (layC c) q f)) := by
  have hg := (layC_ok h).geo; have hb := (layC_ok h).big; have h11 := (layC_ok h).a11; have hp := h.pages
  have hsl := slots_le q
  simp only [y4y]
  rw [decide_eq_false (by omega), cond_false, hs, rheads_eq h]
  simp only [Option.bind_some, rat_eq, lHead]
  by_cases a : 1 ≤ f
  · rw [decide_eq_true (show f ≥ 1 from a), cond_true]
    by_cases b : f ≤ slotsI q
    · rw [decide_eq_true b, if_pos rfl, if_pos ⟨hq, a, b⟩]
      have e1 : (layC c).c = c := rfl
      rw [e1] at hg h11
      rw [wrap_id (x := (layC c).at_6 + ahead) (by omega) (by omega), wrap_id (x := (layC c).at_6 + ahead + f) (by omega) (by omega), wrap_id (by omega) (by omega), ha]
      congr 2; omega
    · rw [decide_eq_false b, if_neg (by decide), if_neg (fun x => b x.2.2)]
  · rw [decide_eq_false (show ¬ f ≥ 1 from a), cond_false, if_neg (by decide), if_neg (fun x => a x.2.1)]
theorem rHead_eq (h : RightC c) (q f : Int) : y3z ⟨c⟩ q f = some (lHead (layC c) q f) := by
  unfold y3z
  by_cases a : q < 0
  · rw [decide_eq_true a, cond_true, lHead_no (fun x => by have := x.1; omega)]
  rw [decide_eq_false a, cond_false]
  by_cases b : q > 4
  · rw [decide_eq_true b, cond_true, lHead_no (fun x => by have := x.1; omega)]
  rw [decide_eq_false b, cond_false]
  have go : ∀ (k ahead s : Int), k < q → y3g k = some s → -9223372036854775808 ≤ ahead + s ∧ ahead + s ≤ 9223372036854775807 → 0 ≤ k → k < 5 →
      y4y ⟨c⟩ q f ahead k = some (.inl (ahead + s, k + 1)) := fun k ahead s h1 h2 h3 h4 h5 => by
    simp only [y4y]
    rw [decide_eq_true h1, cond_true, h2, Option.bind_some, wrap_id h3.1 h3.2, wrap_id (by omega) (by omega)]
  have e : q = 0 ∨ q = 1 ∨ q = 2 ∨ q = 3 ∨ q = 4 := by omega
  rcases e with rfl | rfl | rfl | rfl | rfl
  · exact loopO_end (rHead_end h (by decide) rSlots0 (by decide))
  · exact (loopO_go (go 0 0 32 (by decide) rSlots0 (by decide) (by decide) (by decide))).trans (loopO_end (rHead_end h (by decide) rSlots1 (by decide)))
  · exact (loopO_go (go 0 0 32 (by decide) rSlots0 (by decide) (by decide) (by decide))).trans ((loopO_go (go 1 32 16 (by decide) rSlots1 (by decide) (by decide) (by decide))).trans (loopO_end (rHead_end h (by decide) rSlots2 (by decide))))
  · exact (loopO_go (go 0 0 32 (by decide) rSlots0 (by decide) (by decide) (by decide))).trans ((loopO_go (go 1 32 16 (by decide) rSlots1 (by decide) (by decide) (by decide))).trans ((loopO_go (go 2 48 8 (by decide) rSlots2 (by decide) (by decide) (by decide))).trans (loopO_end (rHead_end h (by decide) rSlots3 (by decide)))))
  · exact (loopO_go (go 0 0 32 (by decide) rSlots0 (by decide) (by decide) (by decide))).trans ((loopO_go (go 1 32 16 (by decide) rSlots1 (by decide) (by decide) (by decide))).trans ((loopO_go (go 2 48 8 (by decide) rSlots2 (by decide) (by decide) (by decide))).trans ((loopO_go (go 3 56 4 (by decide) rSlots3 (by decide) (by decide) (by decide))).trans (loopO_end (rHead_end h (by decide) rSlots4 (by decide))))))
theorem rthere10_eq (h : RightC c) (p q f : Int) : y5m ⟨c⟩ p q f = some (decide (isL q f ∧ 0 ≤ p ∧ p < c.Pages)) := by
  unfold y5m
  by_cases a : 0 ≤ p
  · rw [decide_eq_true (show p ≥ 0 from a), cond_true]
    by_cases b : p < c.Pages
    · rw [decide_eq_true b, cond_true, rHead_eq h, Option.bind_some]
      by_cases k : isL q f
      · have e : (lHead (layC c) q f != 0) = true := by simpa using lHead_ne (layC_ok h) k
        rw [e, decide_eq_true ⟨k, a, b⟩]
      · rw [lHead_no k, decide_eq_false (fun x => k x.1)]; rfl
    · rw [decide_eq_false b, cond_false, decide_eq_false (fun x => b x.2.2)]
  · rw [decide_eq_false (show ¬ p ≥ 0 from a), cond_false, decide_eq_false (fun x => a x.2.1)]
theorem rList_eq (h : RightC c) {w : List Int} (v : VOK (layC c) w.length w) {q f : Int} (k : isL q f) {xs : List Int} (l : Lst (layC c).at_4 c.Pages w (hdI ((layC c).at_4 + 2 * c.Pages) q f) xs) : y3k ⟨c⟩ q f w = some xs := by
  have hpg := h.pages
  obtain ⟨g1, g2, g3⟩ := v.geoA.geo k
  have e0 : (layC c).c = c := rfl
  rw [e0] at g3
  have hle := l.len (by omega)
  unfold y3k
  have hh := lHead_is v.lay k
  rw [e0] at hh
  rw [rHead_eq h, Option.bind_some, hh]
  generalize hdI ((layC c).at_4 + 2 * c.Pages) q f = hd at *
  have e1 : (hd == 0) = false := by simp; omega
  rw [e1, cond_false, offs_nn (by omega), inR_int (by omega) (by omega), cond_true]
  have hrd : ∀ i, i < xs.length → lPg (layC c) (layC c).at_4 (xs.getD i 0) = (layC c).at_4 + xs.getD i 0 ∧ inR ((layC c).at_4 + xs.getD i 0) w.length = true ∧ w.getD ((layC c).at_4 + xs.getD i 0).toNat 0 = nxV xs (i + 1) := fun i hi => by
    have hb := l.inn _ (getD_mem hi)
    exact ⟨nx_is hb, inR_int (by omega) (by omega), l.next i hi⟩
  have hbd : ∀ i, i < xs.length → 1 ≤ nxV xs i ∧ nxV xs i ≤ 256 := fun i hi => by
    have hb := l.inn _ (getD_mem hi)
    rw [nxV_at hi]; omega
  have hhd : w.getD hd.toNat 0 = nxV xs 0 := l.head
  rw [hhd, cond_true]
  obtain ⟨r, h2, rfl⟩ := loopO_ind (step := fun s : Int × Int × List Int => y7p ⟨c⟩ w s.1 s.2.1 s.2.2)
    (I := fun s => ∃ i : Nat, i ≤ xs.length ∧ s = (nxV xs i, (i : Int), xs.take i)) (μ := fun s => (c.Pages - s.2.1).toNat) (fun r => r = xs) (by
      rintro _ ⟨i, hi2, rfl⟩
      simp only [y7p]
      by_cases cc : i < xs.length
      · have h3 := hbd i cc
        have hat : nxV xs i - 1 = xs.getD i 0 := by rw [nxV_at cc]; omega
        rw [decide_eq_true (by omega), cond_true, decide_eq_true (by omega), cond_true, decide_eq_true (by rw [List.length_take]; omega), cond_true, wrap_id (by omega) (by omega), hat, rNext_eq h, Option.bind_some, (hrd i cc).1, (hrd i cc).2.1, cond_true]
        have hb := l.inn _ (getD_mem cc)
        rw [offs_nn (by omega), (hrd i cc).2.1, cond_true, (hrd i cc).2.2, wrap_succ (by omega)]
        refine .inl ⟨_, rfl, ⟨i + 1, cc, ?_⟩, by simp only; omega⟩
        rw [take_snoc cc]
      · have e : i = xs.length := by omega
        subst e
        rw [nxV_end (Nat.le_refl _), List.take_length]
        by_cases d : (xs.length : Int) < c.Pages
        · rw [decide_eq_true d, cond_true, decide_eq_false (by omega), cond_false]; exact .inr ⟨_, rfl, rfl⟩
        · rw [decide_eq_false d, cond_false]; exact .inr ⟨_, rfl, rfl⟩) (nxV xs 0, 0, []) ⟨0, by omega, by simp⟩
  exact h2
theorem rList_no (h : RightC c) {w : List Int} {q f : Int} (k : ¬ isL q f) : y3k ⟨c⟩ q f w = some [] := by
  unfold y3k
  rw [rHead_eq h, Option.bind_some, lHead_no k]; rfl
theorem rlay_eq (h : RightC c) {w : List Int} (v : VOK (layC c) w.length w) {q f : Int} (k : isL q f) {xs : List Int} (hx : ∀ x ∈ xs, 0 ≤ x ∧ x < c.Pages) (nd : xs.Nodup) :
    ∃ u, y5i ⟨c⟩ q f w xs = some u ∧ Lst (layC c).at_4 c.Pages u (hdI ((layC c).at_4 + 2 * c.Pages) q f) xs ∧ Off (layC c).at_4 c.Pages w u (hdI ((layC c).at_4 + 2 * c.Pages) q f) xs := by
  have hpg := h.pages
  have g := v.geoA.geo k
  have e0 : (layC c).c = c := rfl
  rw [e0] at g
  obtain ⟨g1, g2, g3⟩ := id g
  have hle : (xs.length : Int) ≤ c.Pages := by
    have := nodupI_len (N := c.Pages.toNat) nd (fun x hm => by have := hx x hm; omega)
    omega
  have hin : ∀ i, i < xs.length → 0 ≤ xs.getD i 0 ∧ xs.getD i 0 < c.Pages := fun i hi => hx _ (getD_mem hi)
  unfold y5i
  have hh := lHead_is v.lay k
  rw [e0] at hh
  rw [rHead_eq h, Option.bind_some, hh, offs_nn (by omega), inR_int (by omega) (by omega), cond_true, cond_true]
  have hst := Laid.start (xs := xs) g
  have hhd : y3z ⟨c⟩ q f = some (hdI ((layC c).at_4 + 2 * c.Pages) q f) := by rw [rHead_eq h, hh]
  generalize hdI ((layC c).at_4 + 2 * c.Pages) q f = hd at *
  obtain ⟨r, h2, hr⟩ := loopO_ind (step := fun s : Int × List Int => y8e ⟨c⟩ q f xs s.1 s.2)
    (I := fun s => ∃ i : Nat, i ≤ xs.length ∧ s.1 = (i : Int) ∧ Laid (layC c).at_4 c.Pages w s.2 hd xs i) (μ := fun s => xs.length - s.1.toNat) (fun r => Laid (layC c).at_4 c.Pages w r hd xs xs.length) (by
      rintro ⟨_, u⟩ ⟨i, hi, rfl, l⟩
      simp only at l ⊢
      simp only [y8e]
      by_cases cc : i < xs.length
      · have hb := hin i cc
        have ho : offs (i : Int) 0 = (i : Int) := rfl
        have hul := l.off.len
        have st := l.step g hx nd cc
        have hP : y4a ⟨c⟩ (xs.getD i 0) = some ((layC c).at_4 + c.Pages + xs.getD i 0) := by rw [rPrev_eq h, pv_is v.lay hb]; rfl
        have hN : y3n ⟨c⟩ (xs.getD i 0) = some ((layC c).at_4 + xs.getD i 0) := by rw [rNext_eq h, nx_is hb]
        rw [decide_eq_true (show (i : Int) < (xs.length : Int) by omega), cond_true, inR_nat cc, cond_true, ho, inR_nat cc, cond_true, Int.toNat_natCast, hN, hP]
        simp only [Option.bind_some, List.length_set]
        have o1 : offs ((layC c).at_4 + xs.getD i 0) 0 = (layC c).at_4 + xs.getD i 0 := offs_nn (by omega)
        have o2 : offs ((layC c).at_4 + c.Pages + xs.getD i 0) 0 = (layC c).at_4 + c.Pages + xs.getD i 0 := offs_nn (by omega)
        have o3 : offs hd 0 = hd := offs_nn (by omega)
        have r1 : inR ((layC c).at_4 + xs.getD i 0) u.length = true := inR_int (by omega) (by omega)
        have r2 : inR ((layC c).at_4 + c.Pages + xs.getD i 0) u.length = true := inR_int (by omega) (by omega)
        have r3 : inR hd u.length = true := inR_int (by omega) (by omega)
        simp only [o1, o2, o3, r1, r2, r3, hhd, Option.bind_some, cond_true]
        have w1 : IntKind.i64.wrap ((i : Int) + 1) = ((i + 1 : Nat) : Int) := wrap_succ (by omega)
        have ho1 : offs ((i + 1 : Nat) : Int) 0 = ((i + 1 : Nat) : Int) := rfl
        have e1 : (xs.getD i 0 + 1 : Int) = IntKind.i64.wrap (xs.getD i 0 + 1) := (wrap_id (by omega) (by omega)).symm
        simp only [w1, ho1, Int.toNat_natCast, ← e1]
        unfold layStep at st
        dsimp only at st
        by_cases d : i + 1 < xs.length
        · have hb1 := hin (i + 1) d
          have e2 : IntKind.i64.wrap (xs.getD (i + 1) 0 + 1) = xs.getD (i + 1) 0 + 1 := wrap_id (by omega) (by omega)
          rw [if_pos d] at st
          rw [decide_eq_true (show ((i + 1 : Nat) : Int) < (xs.length : Int) by omega), inR_nat d, e2]
          simp only [cond_true]
          by_cases z : i = 0
          · have ez : ((i : Int) == 0) = true := by simp [z]
            rw [if_pos z] at st
            rw [ez, cond_true]
            exact .inl ⟨_, rfl, ⟨i + 1, cc, rfl, st⟩, by simp only; omega⟩
          · have ez : ((i : Int) == 0) = false := by simpa using z
            have w2 : IntKind.i64.wrap ((i : Int) - 1) = ((i - 1 : Nat) : Int) := by rw [wrap_id (by omega) (by omega)]; omega
            have ho2 : offs ((i - 1 : Nat) : Int) 0 = ((i - 1 : Nat) : Int) := rfl
            have hb2 := hin (i - 1) (by omega)
            have e3 : IntKind.i64.wrap (xs.getD (i - 1) 0 + 1) = xs.getD (i - 1) 0 + 1 := wrap_id (by omega) (by omega)
            rw [if_neg z] at st
            rw [ez, cond_false, w2, ho2, inR_nat (by omega), Int.toNat_natCast, e3]
            simp only [cond_true]
            exact .inl ⟨_, rfl, ⟨i + 1, cc, rfl, st⟩, by simp only; omega⟩
        · rw [if_neg d] at st
          rw [decide_eq_false (show ¬ ((i + 1 : Nat) : Int) < (xs.length : Int) by omega)]
          simp only [cond_false]
          by_cases z : i = 0
          · have ez : ((i : Int) == 0) = true := by simp [z]
            rw [if_pos z] at st
            rw [ez, cond_true]
            exact .inl ⟨_, rfl, ⟨i + 1, cc, rfl, st⟩, by simp only; omega⟩
          · have ez : ((i : Int) == 0) = false := by simpa using z
            have w2 : IntKind.i64.wrap ((i : Int) - 1) = ((i - 1 : Nat) : Int) := by rw [wrap_id (by omega) (by omega)]; omega
            have ho2 : offs ((i - 1 : Nat) : Int) 0 = ((i - 1 : Nat) : Int) := rfl
            have hb2 := hin (i - 1) (by omega)
            have e3 : IntKind.i64.wrap (xs.getD (i - 1) 0 + 1) = xs.getD (i - 1) 0 + 1 := wrap_id (by omega) (by omega)
            rw [if_neg z] at st
            rw [ez, cond_false, w2, ho2, inR_nat (by omega), Int.toNat_natCast, e3]
            simp only [cond_true]
            exact .inl ⟨_, rfl, ⟨i + 1, cc, rfl, st⟩, by simp only; omega⟩
      · have e : i = xs.length := by omega
        subst e
        rw [decide_eq_false (by omega), cond_false]
        exact .inr ⟨_, rfl, l⟩) (0, w.set hd.toNat 0) ⟨0, by omega, rfl, hst⟩
  exact ⟨r, h2, hr.fin hx nd, hr.off⟩
end
end Go.Rx
end

section
namespace Go.Rx
open Go.Proofs
theorem filter_erase : ∀ {xs : List Int}, xs.Nodup → ∀ {k : Nat}, k < xs.length → xs.filter (fun x => x != xs.getD k 0) = xs.eraseIdx k
  | [], _, _, h => by simp at h
  | x :: r, nd, 0, _ => by
    rw [List.nodup_cons] at nd
    have e : r.filter (fun y => y != x) = r := List.filter_eq_self.2 (fun y hy => by
      have : y ≠ x := fun h => nd.1 (h ▸ hy)
      simpa using this)
    simp only [List.getD_cons_zero, List.filter_cons, bne_self_eq_false, List.eraseIdx_cons_zero]
    exact e
  | x :: r, nd, k + 1, h => by
    rw [List.nodup_cons] at nd
    have hk : k < r.length := by simpa using h
    have hx : x ≠ r.getD k 0 := fun h => nd.1 (h ▸ getD_mem hk)
    have e : (x != r.getD k 0) = true := by simpa [List.getD] using hx
    simp only [List.getD_cons_succ, List.filter_cons, e, if_true, List.eraseIdx_cons_succ]
    rw [filter_erase nd.2 hk]
theorem filter_not {xs : List Int} {p : Int} (h : p ∉ xs) : xs.filter (fun x => x != p) = xs := List.filter_eq_self.2 (fun y hy => by
  have : y ≠ p := fun e => h (e ▸ hy)
  simpa using this)
theorem filter_snoc {xs : List Int} {i : Nat} (h : i < xs.length) (p : Int) : (xs.take (i + 1)).filter (fun x => x != p) = (xs.take i).filter (fun x => x != p) ++ (bif xs.getD i 0 != p then [xs.getD i 0] else []) := by
  rw [take_snoc h, List.filter_append]
  congr 1
section
variable {c : yb}
theorem rLink_eq (h : RightC c) {w : List Int} (v : VOK (layC c) w.length w) {p q f : Int} {xs : List Int} (l : isL q f → Lst (layC c).at_4 c.Pages w (hdI ((layC c).at_4 + 2 * c.Pages) q f) xs) (hp : isL q f → 0 ≤ p → p < c.Pages → p ∉ xs) :
    y45 ⟨c⟩ p q f w = some (if isL q f ∧ 0 ≤ p ∧ p < c.Pages then (true, linkW (layC c).at_4 c.Pages w (hdI ((layC c).at_4 + 2 * c.Pages) q f) p) else (false, w)) := by
  have hpg := h.pages
  unfold y45
  rw [rthere10_eq h, Option.bind_some]
  by_cases a : isL q f ∧ 0 ≤ p ∧ p < c.Pages
  · rw [decide_eq_true a, if_pos a, Bool.not_true, cond_false]
    obtain ⟨k, a1, a2⟩ := a
    have l := l k
    have g := v.geoA.geo k
    have hle := l.len (by omega)
    obtain ⟨n1, n2⟩ := link_ok g l ⟨a1, a2⟩ (hp k a1 a2)
    obtain ⟨u, h1, h2, h3⟩ := rlay_eq h v k n1.inn n1.nd
    rw [rList_eq h v k l, Option.bind_some, decide_eq_true (by omega), cond_true, h1, Option.bind_some]
    have e : u = linkW (layC c).at_4 c.Pages w (hdI ((layC c).at_4 + 2 * c.Pages) q f) p := h2.det n1 h3 n2 (fun y m n => (n m).elim)
    rw [e]
  · rw [decide_eq_false a, if_neg a]; rfl
theorem rUnlink_eq (h : RightC c) {w : List Int} (v : VOK (layC c) w.length w) {p q f : Int} {xs : List Int} (l : isL q f → Lst (layC c).at_4 c.Pages w (hdI ((layC c).at_4 + 2 * c.Pages) q f) xs) :
    y54 ⟨c⟩ p q f w = some (if isL q f ∧ p ∈ xs then (true, unlinkW (layC c).at_4 c.Pages w (hdI ((layC c).at_4 + 2 * c.Pages) q f) p) else (false, w)) := by
  have hpg := h.pages
  unfold y54
  rw [rthere10_eq h, Option.bind_some]
  by_cases a : isL q f ∧ 0 ≤ p ∧ p < c.Pages
  · rw [decide_eq_true a, Bool.not_true, cond_false]
    obtain ⟨k, a1, a2⟩ := a
    have l := l k
    have g : Geo (layC c).at_4 c.Pages w.length (hdI ((layC c).at_4 + 2 * c.Pages) q f) := v.geoA.geo k
    have hle := l.len (by omega)
    rw [rList_eq h v k l, Option.bind_some]
    obtain ⟨r, h1, rfl⟩ := loopO_ind (step := fun s : Int × List Int => y6k ⟨c⟩ p q f w xs s.1 s.2)
      (I := fun s => ∃ i : Nat, i ≤ xs.length ∧ s = ((i : Int), (xs.take i).filter (fun x => x != p))) (μ := fun s => xs.length - s.1.toNat)
      (fun r => r = if isL q f ∧ p ∈ xs then (true, unlinkW (layC c).at_4 c.Pages w (hdI ((layC c).at_4 + 2 * c.Pages) q f) p) else (false, w)) (by
        rintro _ ⟨i, hi, rfl⟩
        simp only [y6k]
        by_cases cc : i < xs.length
        · have ho : offs (i : Int) 0 = (i : Int) := rfl
          have hlen : ((xs.take i).filter (fun x => x != p)).length + 1 ≤ 1048576 := by
            have := List.length_filter_le (fun x => x != p) (xs.take i)
            rw [List.length_take] at this; omega
          rw [decide_eq_true (show (i : Int) < (xs.length : Int) by omega), cond_true, ho, inR_nat cc, Int.toNat_natCast, wrap_succ (by omega)]
          simp only [cond_true]
          refine .inl ⟨_, ?_, ⟨i + 1, cc, rfl⟩, by simp only; omega⟩
          rw [filter_snoc cc]
          cases (xs.getD i 0 != p) with
          | true => rw [cond_true, decide_eq_true hlen, cond_true, cond_true]
          | false => rw [cond_false, cond_false, List.append_nil]
        · have e : i = xs.length := by omega
          subst e
          rw [decide_eq_false (by omega), cond_false, List.take_length]
          by_cases m : p ∈ xs
          · obtain ⟨j, hj, rfl⟩ := mem_getD m
            rw [filter_erase l.nd hj, if_pos ⟨k, m⟩]
            have hel : (xs.eraseIdx j).length = xs.length - 1 := by rw [List.length_eraseIdx, if_pos hj]
            have e1 : (((xs.eraseIdx j).length : Int) == (xs.length : Int)) = false := by rw [hel]; simp; omega
            obtain ⟨n1, n2, z1, z2⟩ := unlink_ok g l hj
            obtain ⟨g1, g2, g3⟩ := id g
            have o1 : offs ((layC c).at_4 + xs.getD j 0) 0 = (layC c).at_4 + xs.getD j 0 := offs_nn (by omega)
            have o2 : offs ((layC c).at_4 + c.Pages + xs.getD j 0) 0 = (layC c).at_4 + c.Pages + xs.getD j 0 := offs_nn (by omega)
            have r1 : inR ((layC c).at_4 + xs.getD j 0) w.length = true := inR_int (by omega) (by omega)
            have r2 : inR ((layC c).at_4 + c.Pages + xs.getD j 0) w.length = true := inR_int (by omega) (by omega)
            have pvn := pv_is v.lay (p := xs.getD j 0) ⟨a1, a2⟩
            have e0 : (layC c).c = c := rfl
            rw [e0] at pvn
            rw [e1, cond_false, rNext_eq h, Option.bind_some, nx_is ⟨a1, a2⟩, rPrev_eq h, Option.bind_some, pvn]
            simp only [List.length_set, o1, o2, r1, r2, cond_true]
            have v1 : VOK (layC c) ((w.set ((layC c).at_4 + xs.getD j 0).toNat 0).set ((layC c).at_4 + c.Pages + xs.getD j 0).toNat 0).length ((w.set ((layC c).at_4 + xs.getD j 0).toNat 0).set ((layC c).at_4 + c.Pages + xs.getD j 0).toNat 0) :=
              ⟨v.lay, rfl, by simp only [List.length_set]; exact v.all⟩
            obtain ⟨u, h1, h2, h3⟩ := rlay_eq h v1 k n1.inn n1.nd
            have oA : Off (layC c).at_4 c.Pages w ((w.set ((layC c).at_4 + xs.getD j 0).toNat 0).set ((layC c).at_4 + c.Pages + xs.getD j 0).toNat 0) (hdI ((layC c).at_4 + 2 * c.Pages) q f) xs :=
              ((Off.refl _ _ _ _ _).set ⟨by omega, by omega⟩ (.inr ⟨_, m, .inl rfl⟩)).set ⟨by omega, by omega⟩ (.inr ⟨_, m, .inr rfl⟩)
            have hsub : ∀ x ∈ xs.eraseIdx j, x ∈ xs := fun x hx => List.mem_of_mem_eraseIdx hx
            have hne : ∀ y ∈ xs.eraseIdx j, y ≠ xs.getD j 0 := fun y hy => ((mem_erase_nd l.nd hj y).1 hy).2
            have h3' := h3.more hsub
            have oB : Off (layC c).at_4 c.Pages w u (hdI ((layC c).at_4 + 2 * c.Pages) q f) xs := ⟨by rw [h3'.len, oA.len], fun b b1 b2 b3 => by rw [h3'.off b b1 b2 b3, oA.off b b1 b2 b3]⟩
            have hwl : (w.set ((layC c).at_4 + xs.getD j 0).toNat 0).length = w.length := List.length_set
            have zu1 : wd u ((layC c).at_4 + xs.getD j 0) = 0 := by
              rw [h3.off _ (by omega) (by omega) (fun y hy => by have := hne y hy; have := n1.inn y hy; omega), wd_set (by omega) (by omega), wd_set (by omega) (by omega)]
              split <;> simp
            have zu2 : wd u ((layC c).at_4 + c.Pages + xs.getD j 0) = 0 := by
              rw [h3.off _ (by omega) (by omega) (fun y hy => by have := hne y hy; have := n1.inn y hy; omega), wd_set (by omega) (by omega), if_pos rfl]
            have e : u = unlinkW (layC c).at_4 c.Pages w (hdI ((layC c).at_4 + 2 * c.Pages) q f) (xs.getD j 0) := h2.det n1 oB n2 (fun y my ny => by
              by_cases ey : y = xs.getD j 0
              · rw [ey, zu1, zu2, z1, z2]; exact ⟨rfl, rfl⟩
              · exact (ny ((mem_erase_nd l.nd hj y).2 ⟨my, ey⟩)).elim)
            rw [h1, Option.bind_some, e]
            exact .inr ⟨_, rfl, rfl⟩
          · rw [filter_not m, beq_self_eq_true, cond_true, if_neg (fun x => m x.2)]
            exact .inr ⟨_, rfl, rfl⟩) (0, []) ⟨0, by omega, by simp⟩
    exact h1
  · rw [decide_eq_false a, if_neg ?_]
    · rfl
    · rintro ⟨k, m⟩
      exact a ⟨k, (l k).inn p m⟩
theorem firstF_congr {ls ls' : Int → Int → List Int} {q : Int} : ∀ (n : Nat) (f : Int), (∀ g, f ≤ g → g < f + n → ls q g = ls' q g) → firstF ls q f n = firstF ls' q f n
  | 0, _, _ => rfl
  | n + 1, f, h => by
    simp only [firstF]
    rw [h f (by omega) (by omega), firstF_congr n (f + 1) (fun g h1 h2 => h g (by omega) (by omega))]
theorem rFirst_eq (h : RightC c) {w : List Int} (v : VOK (layC c) w.length w) {q : Int} {ls : Int → Int → List Int} (l : ∀ f, isL q f → Lst (layC c).at_4 c.Pages w (hdI ((layC c).at_4 + 2 * c.Pages) q f) (ls q f)) :
    y51 ⟨c⟩ q w = some (firstF ls q 1 (slotsC q).toNat) := by
  have hs := slotsC_le q
  have hL : ∀ f, y3k ⟨c⟩ q f w = some (lsOf ls q f) := fun f => by
    unfold lsOf
    by_cases k : isL q f
    · rw [if_pos k]; exact rList_eq h v k (l f k)
    · rw [if_neg k]; exact rList_no h k
  have key : y51 ⟨c⟩ q w = some (firstF (lsOf ls) q 1 32) := by
    refine loopO_fun (step := fun s : Int => y8y ⟨c⟩ q w s) (I := fun f => 1 ≤ f ∧ f ≤ 33) (fun f => (33 - f).toNat) (fun f => firstF (lsOf ls) q f (33 - f).toNat) (fun f hf => ?_) 1 ⟨by omega, by omega⟩
    simp only [y8y, hL, Option.bind_some]
    by_cases c0 : f ≤ 32
    · rw [decide_eq_true c0, cond_true]
      have hn : (33 - f).toNat = (33 - (f + 1)).toNat + 1 := by omega
      cases hx : lsOf ls q f with
      | nil =>
        rw [decide_eq_false (by simp), cond_false, wrap_id (by omega) (by omega)]
        refine .inl ⟨_, rfl, ⟨by omega, by omega⟩, by omega, ?_⟩
        rw [hn]; simp only [firstF, hx]
      | cons x r =>
        have e1 : offs 0 0 = 0 := rfl
        rw [decide_eq_true (by simp), cond_true, inR_int (by omega) (by simp), cond_true, e1, inR_int (by omega) (by simp), cond_true]
        refine .inr ?_
        rw [hn]; simp only [firstF, hx]; rfl
    · rw [decide_eq_false c0, cond_false]
      refine .inr ?_
      have : (33 - f).toNat = 0 := by omega
      rw [this]; rfl
  rw [key]
  have e : 32 = (slotsC q).toNat + (32 - (slotsC q).toNat) := by omega
  rw [e, firstF_more (slotsC q).toNat (32 - (slotsC q).toNat) 1 (fun g hg => by unfold lsOf; rw [if_neg (fun k => by have := k.2; omega)])]
  congr 1
  refine firstF_congr _ _ (fun g h1 h2 => ?_)
  unfold lsOf
  by_cases hq : 0 ≤ q ∧ q < 5
  · rw [if_pos ⟨hq, h1, by omega⟩]
  · exfalso
    have : slotsC q = 0 := by
      unfold slotsC
      rw [if_neg (by omega), if_neg (by omega), if_neg (by omega), if_neg (by omega), if_neg (by omega)]
    rw [this] at h2
    have e0 : ((0 : Int).toNat : Int) = 0 := rfl
    omega
end
end Go.Rx
end

section
namespace Go.Rx
def knd (kb pg : Int) (w : List Int) (p : Int) : Int := if 0 ≤ p ∧ p < pg then wd w (kb + p) else -1
structure FreeR (kb pg : Int) (w : List Int) (p n : Int) : Prop where
  span : 1 ≤ n ∧ 0 ≤ p ∧ p < pg ∧ n ≤ pg - p
  free : ∀ i, 0 ≤ i → i < n → wd w (kb + (p + i)) = 0
structure Ran (kb pg : Int) (w u : List Int) (p n k : Int) : Prop where
  len : u.length = w.length
  at_ : ∀ b : Int, 0 ≤ b → wd u b = if kb + p ≤ b ∧ b < kb + p + n then k else if kb + pg + p ≤ b ∧ b < kb + pg + p + n then 0 else if kb + 2 * pg + p ≤ b ∧ b < kb + 2 * pg + p + n then 0 else wd w b
def setP (kb pg : Int) (w : List Int) (p k c : Int) : List Int := ((w.set (kb + p).toNat k).set (kb + pg + p).toNat c).set (kb + 2 * pg + p).toNat 0
structure GeoK (kb pg : Int) (n : Nat) : Prop where
  base : 1 ≤ kb
  pages : 1 ≤ pg ∧ pg ≤ 256
  top : kb + 3 * pg ≤ n
theorem setP_len (kb pg : Int) (w : List Int) (p k c : Int) : (setP kb pg w p k c).length = w.length := by simp [setP]
theorem setP_wd {kb pg : Int} {w : List Int} {p k c : Int} (g : GeoK kb pg w.length) (hp : 0 ≤ p ∧ p < pg) {b : Int} (hb : 0 ≤ b) :
    wd (setP kb pg w p k c) b = if b = kb + p then k else if b = kb + pg + p then c else if b = kb + 2 * pg + p then 0 else wd w b := by
  obtain ⟨g1, g2, g3⟩ := g
  unfold setP
  rw [wd_set (by simp only [List.length_set]; omega) hb, wd_set (by simp only [List.length_set]; omega) hb, wd_set (by omega) hb]
  by_cases h1 : b = kb + p
  · rw [if_pos h1, if_neg (by omega), if_neg (by omega), if_pos h1]
  · rw [if_neg h1, if_neg h1]
    by_cases h2 : b = kb + pg + p
    · rw [if_pos h2, if_neg (by omega), if_pos h2]
    · rw [if_neg h2, if_neg h2]
theorem Ran.zero (kb pg : Int) (w : List Int) (p k : Int) : Ran kb pg w w p 0 k :=
  ⟨rfl, fun b hb => by rw [if_neg (by omega), if_neg (by omega), if_neg (by omega)]⟩
theorem Ran.step {kb pg : Int} {w u : List Int} {p n k : Int} (g : GeoK kb pg w.length) (r : Ran kb pg w u p n k) (hp : 0 ≤ p) (hn : 0 ≤ n) (h : p + n < pg) : Ran kb pg w (setP kb pg u (p + n) k 0) p (n + 1) k := by
  have g1 := g.base; have g2 := g.pages
  refine ⟨by rw [setP_len, r.len], fun b hb => ?_⟩
  rw [setP_wd (by rw [r.len]; exact g) (by omega) hb, r.at_ b hb]
  by_cases h1 : b = kb + (p + n)
  · rw [if_pos h1, if_pos (by omega)]
  · rw [if_neg h1]
    by_cases h2 : b = kb + pg + (p + n)
    · rw [if_pos h2, if_neg (by omega), if_pos (by omega)]
    · rw [if_neg h2]
      by_cases h3 : b = kb + 2 * pg + (p + n)
      · rw [if_pos h3, if_neg (by omega), if_neg (by omega), if_pos (by omega)]
      · rw [if_neg h3]
        repeat' split
        all_goals first | rfl | (exfalso; omega)
theorem Ran.knd {kb pg : Int} {w u : List Int} {p n k : Int} (g : GeoK kb pg w.length) (r : Ran kb pg w u p n k) (hp : 0 ≤ p) (h : p + n ≤ pg) (q : Int) : Go.Rx.knd kb pg u q = if p ≤ q ∧ q < p + n then k else Go.Rx.knd kb pg w q := by
  have g1 := g.base; have g2 := g.pages
  unfold Go.Rx.knd
  by_cases c : 0 ≤ q ∧ q < pg
  · rw [if_pos c, if_pos c, r.at_ _ (by omega)]
    by_cases d : p ≤ q ∧ q < p + n
    · rw [if_pos (by omega), if_pos d]
    · rw [if_neg (by omega), if_neg (by omega), if_neg (by omega), if_neg d]
  · rw [if_neg c, if_neg c, if_neg (by omega)]
theorem Ran.uniq {kb pg : Int} {w u u' : List Int} {p n k : Int} (r : Ran kb pg w u p n k) (r' : Ran kb pg w u' p n k) : u = u' :=
  wd_ext (by rw [r.len, r'.len]) (fun b hb => by rw [r.at_ b hb, r'.at_ b hb])
theorem take_same {kb pg : Int} {w u1 u2 : List Int} {p n k c : Int} (g : GeoK kb pg w.length) (hs : 1 ≤ n ∧ 0 ≤ p ∧ p < pg ∧ n ≤ pg - p) (r1 : Ran kb pg (setP kb pg w p k c) u1 (p + 1) (n - 1) 7) (r2 : Ran kb pg w u2 p n 7) : setP kb pg u2 p k c = u1 := by
  have g1 := g.base; have g2 := g.pages
  refine wd_ext (by rw [setP_len, r2.len, r1.len, setP_len]) (fun b hb => ?_)
  rw [setP_wd (by rw [r2.len]; exact g) (by omega) hb, r2.at_ b hb, r1.at_ b hb, setP_wd g (by omega) hb]
  by_cases h1 : b = kb + p
  · rw [if_pos h1, if_neg (by omega), if_neg (by omega), if_neg (by omega), if_pos h1]
  · rw [if_neg h1, if_neg h1]
    by_cases h2 : b = kb + pg + p
    · rw [if_pos h2, if_neg (by omega), if_neg (by omega), if_neg (by omega), if_pos h2]
    · rw [if_neg h2, if_neg h2]
      by_cases h3 : b = kb + 2 * pg + p
      · rw [if_pos h3, if_neg (by omega), if_neg (by omega), if_neg (by omega), if_pos h3]
      · rw [if_neg h3, if_neg h3]
        repeat' split
        all_goals first | rfl | (exfalso; omega)
def Least (pg : Int) (P : Int → Prop) (r : Int) : Prop := (r = -1 ∧ ∀ q, 0 ≤ q → q < pg → ¬ P q) ∨ (0 ≤ r ∧ r < pg ∧ P r ∧ ∀ q, 0 ≤ q → q < r → ¬ P q)
theorem Least.uniq {pg : Int} {P : Int → Prop} {r r' : Int} (h : Least pg P r) (h' : Least pg P r') : r = r' := by
  rcases h with ⟨h1, h2⟩ | ⟨h1, h2, h3, h4⟩ <;> rcases h' with ⟨k1, k2⟩ | ⟨k1, k2, k3, k4⟩
  · omega
  · exact (h2 r' k1 k2 k3).elim
  · exact (k2 r h1 h2 h3).elim
  · by_cases c : r < r'
    · exact (k4 r h1 c h3).elim
    · by_cases d : r' < r
      · exact (h4 r' k1 d k3).elim
      · omega
structure RunsOK (kb pg : Int) (w : List Int) : Prop where
  kinds : ∀ p, 0 ≤ p → p < pg → 0 ≤ wd w (kb + p) ∧ wd w (kb + p) ≤ 7
  rest : ∀ p, 0 ≤ p → p < pg → wd w (kb + p) = 7 → 1 ≤ p ∧ (wd w (kb + (p - 1)) = 6 ∨ wd w (kb + (p - 1)) = 7)
  zero : ∀ p, 0 ≤ p → p < pg → wd w (kb + p) = 0 → wd w (kb + pg + p) = 0 ∧ wd w (kb + 2 * pg + p) = 0
end Go.Rx
end

section
namespace Go.Rx
structure Does (pg step n : Int) (ok : Int → Prop) (q : Int) : Prop where
  mul : q % step = 0
  span : 1 ≤ n ∧ 0 ≤ q ∧ q < pg ∧ n ≤ pg - q
  all : ∀ j, q ≤ j → j < q + n → ok j
theorem fit_next {pg step n p i : Int} {ok : Int → Prop} (hs : 1 ≤ step) (hp : 0 ≤ p) (hi : 0 ≤ i ∧ i < n) (hb : ¬ ok (p + i)) (hno : ∀ q, 0 ≤ q → q < p → ¬ Does pg step n ok q) :
    p < (p + i) / step * step + step ∧ (p + i) / step * step + step ≤ p + i + step ∧ ((p + i) / step * step + step) % step = 0 ∧ ∀ q, 0 ≤ q → q < (p + i) / step * step + step → ¬ Does pg step n ok q := by
  have h1 : (p + i) / step * step ≤ p + i := Int.ediv_mul_le _ (by omega)
  have h2 : p + i < (p + i) / step * step + step := by
    have h3 := Int.mul_ediv_add_emod (p + i) step
    have h4 := Int.emod_lt_of_pos (p + i) (b := step) (by omega)
    rw [Int.mul_comm] at h3
    omega
  refine ⟨by omega, by omega, ?_, fun q hq hq' d => ?_⟩
  · have : (p + i) / step * step + step = ((p + i) / step + 1) * step := by rw [Int.add_mul, Int.one_mul]
    rw [this]; exact Int.mul_emod_left _ _
  · by_cases c : q < p
    · exact hno q hq c d
    · have hm := Int.mul_ediv_add_emod q step
      rw [d.mul, Int.add_zero] at hm
      have hle : q ≤ p + i := by
        have e : q = q / step * step := by rw [Int.mul_comm]; exact hm.symm
        have hlt : q / step < (p + i) / step + 1 := by
          have h3 : q / step * step < ((p + i) / step + 1) * step := by rw [Int.add_mul, Int.one_mul, ← e]; exact hq'
          exact Int.lt_of_mul_lt_mul_right h3 (by omega)
        have h4 : q / step * step ≤ (p + i) / step * step := Int.mul_le_mul_of_nonneg_right (by omega) (by omega)
        omega
      exact hb (d.all (p + i) (by omega) (by omega))
theorem fit_end {pg step n p : Int} {ok : Int → Prop} (h : ¬ (1 ≤ n ∧ 0 ≤ p ∧ p < pg ∧ n ≤ pg - p)) (hn : 1 ≤ n) (hp : 0 ≤ p) (hno : ∀ q, 0 ≤ q → q < p → ¬ Does pg step n ok q) : Least pg (Does pg step n ok) (-1) := by
  refine .inl ⟨rfl, fun q hq hq' d => ?_⟩
  by_cases c : q < p
  · exact hno q hq c d
  · have := d.span; omega
theorem fit_hit {pg step n p : Int} {ok : Int → Prop} (d : Does pg step n ok p) (hno : ∀ q, 0 ≤ q → q < p → ¬ Does pg step n ok q) : Least pg (Does pg step n ok) p :=
  .inr ⟨d.span.2.1, d.span.2.2.1, d, hno⟩
theorem Does.mono {pg step n : Int} {ok ok' : Int → Prop} {q : Int} (d : Does pg step n ok q) (h : ∀ j, q ≤ j → j < q + n → ok j → ok' j) : Does pg step n ok' q :=
  ⟨d.mul, d.span, fun j h1 h2 => h j h1 h2 (d.all j h1 h2)⟩
def Found (pg step n : Int) (ok mp : Int → Prop) (r : Int) : Prop :=
  (0 ≤ r ∧ Least pg (Does pg step n (fun j => ok j ∧ mp j)) r) ∨ (Least pg (Does pg step n (fun j => ok j ∧ mp j)) (-1) ∧ Least pg (Does pg step n ok) r)
theorem Found.uniq {pg step n : Int} {ok mp : Int → Prop} {r r' : Int} (h : Found pg step n ok mp r) (h' : Found pg step n ok mp r') : r = r' := by
  rcases h with ⟨h1, h2⟩ | ⟨h1, h2⟩ <;> rcases h' with ⟨k1, k2⟩ | ⟨k1, k2⟩
  · exact h2.uniq k2
  · have := h2.uniq k1; omega
  · have := h1.uniq k2; omega
  · exact h2.uniq k2
end Go.Rx
end

section
namespace Go.Rx
theorem knd_in {kb pg : Int} {w : List Int} {q : Int} (h : 0 ≤ q ∧ q < pg) : knd kb pg w q = wd w (kb + q) := by unfold knd; rw [if_pos h]
theorem knd_out {kb pg : Int} {w : List Int} {q : Int} (h : ¬ (0 ≤ q ∧ q < pg)) : knd kb pg w q = -1 := by unfold knd; rw [if_neg h]
structure Took (kb pg : Int) (w u : List Int) (p n k c : Int) : Prop where
  len : u.length = w.length
  knd : ∀ q, knd kb pg u q = if q = p then k else if p < q ∧ q < p + n then 7 else knd kb pg w q
  cnt : ∀ q, 0 ≤ q → q < pg → ¬ (p ≤ q ∧ q < p + n) → wd u (kb + pg + q) = wd w (kb + pg + q) ∧ wd u (kb + 2 * pg + q) = wd w (kb + 2 * pg + q)
  off : ∀ b, 0 ≤ b → (b < kb ∨ kb + 3 * pg ≤ b) → wd u b = wd w b
structure RunLen (kb pg : Int) (w : List Int) (p n : Int) : Prop where
  pos : 1 ≤ n
  inn : p + n ≤ pg
  rest : ∀ i, 1 ≤ i → i < n → knd kb pg w (p + i) = 7
  fin : knd kb pg w p = 6 → knd kb pg w (p + n) ≠ 7
  one : knd kb pg w p ≠ 6 → n = 1
theorem RunLen.uniq {kb pg : Int} {w : List Int} {p n m : Int} (h : RunLen kb pg w p n) (k : RunLen kb pg w p m) : n = m := by
  by_cases c : knd kb pg w p = 6
  · by_cases d : n < m
    · exact (h.fin c (k.rest n h.pos d)).elim
    · by_cases e : m < n
      · exact (k.fin c (h.rest m k.pos e)).elim
      · omega
  · rw [h.one c, k.one c]
theorem RunsOK.take {kb pg : Int} {w u : List Int} {p n k c : Int} (r : RunsOK kb pg w) (f : FreeR kb pg w p n) (t : Took kb pg w u p n k c) (hk : 1 ≤ k ∧ k ≤ 6) (h1 : k < 6 → n = 1) : RunsOK kb pg u := by
  have hs := f.span
  have hf : ∀ q, p ≤ q → q < p + n → wd w (kb + q) = 0 := fun q a b => by
    have := f.free (q - p) (by omega) (by omega)
    rw [show p + (q - p) = q by omega] at this; exact this
  have hu : ∀ q, 0 ≤ q → q < pg → wd u (kb + q) = if q = p then k else if p < q ∧ q < p + n then 7 else wd w (kb + q) := fun q a b => by
    have := t.knd q
    rw [knd_in ⟨a, b⟩, knd_in ⟨a, b⟩] at this; exact this
  refine ⟨fun q a b => ?_, fun q a b e => ?_, fun q a b e => ?_⟩
  · rw [hu q a b]
    have := r.kinds q a b
    split
    · omega
    · split <;> omega
  · rw [hu q a b] at e
    by_cases e1 : q = p
    · rw [if_pos e1] at e; omega
    · rw [if_neg e1] at e
      by_cases e2 : p < q ∧ q < p + n
      · refine ⟨by omega, ?_⟩
        rw [hu (q - 1) (by omega) (by omega)]
        by_cases e3 : q - 1 = p
        · rw [if_pos e3]; left
          by_cases c6 : k = 6
          · exact c6
          · have := h1 (by omega); omega
        · rw [if_neg e3, if_pos (by omega)]; right; rfl
      · rw [if_neg e2] at e
        have hr := r.rest q a b e
        refine ⟨hr.1, ?_⟩
        by_cases e3 : p ≤ q - 1 ∧ q - 1 < p + n
        · have := hf (q - 1) e3.1 e3.2
          rw [this] at hr; omega
        · rw [hu (q - 1) (by omega) (by omega), if_neg (by omega), if_neg (by omega)]; exact hr.2
  · rw [hu q a b] at e
    by_cases e1 : q = p
    · rw [if_pos e1] at e; omega
    · rw [if_neg e1] at e
      by_cases e2 : p < q ∧ q < p + n
      · rw [if_pos e2] at e; omega
      · rw [if_neg e2] at e
        obtain ⟨c1, c2⟩ := t.cnt q a b (by omega)
        rw [c1, c2]; exact r.zero q a b e
theorem RunsOK.drop {kb pg : Int} {w u : List Int} {p n : Int} (g : GeoK kb pg w.length) (r : RunsOK kb pg w) (hp : 0 ≤ p) (l : RunLen kb pg w p n) (hk : 1 ≤ knd kb pg w p ∧ knd kb pg w p ≤ 6) (t : Ran kb pg w u p n 0) : RunsOK kb pg u := by
  have g1 := g.base; have g2 := g.pages
  have hn := l.pos; have hi := l.inn
  have hu : ∀ q, 0 ≤ q → q < pg → wd u (kb + q) = if p ≤ q ∧ q < p + n then 0 else wd w (kb + q) := fun q a b => by
    have := t.knd g hp hi q
    rw [knd_in ⟨a, b⟩, knd_in ⟨a, b⟩] at this; exact this
  refine ⟨fun q a b => ?_, fun q a b e => ?_, fun q a b e => ?_⟩
  · rw [hu q a b]
    have := r.kinds q a b
    split <;> omega
  · rw [hu q a b] at e
    by_cases e1 : p ≤ q ∧ q < p + n
    · rw [if_pos e1] at e; omega
    · rw [if_neg e1] at e
      have hr := r.rest q a b e
      refine ⟨hr.1, ?_⟩
      rw [hu (q - 1) (by omega) (by omega)]
      by_cases e3 : p ≤ q - 1 ∧ q - 1 < p + n
      · exfalso
        have eq : q = p + n := by omega
        by_cases c6 : knd kb pg w p = 6
        · have := l.fin c6
          rw [← eq, knd_in ⟨a, b⟩] at this; omega
        · have h1 := l.one c6
          rw [h1] at eq
          have : q - 1 = p := by omega
          rw [this] at hr
          rw [knd_in (by omega)] at hk c6
          omega
      · rw [if_neg e3]; exact hr.2
  · by_cases e1 : p ≤ q ∧ q < p + n
    · exact ⟨by rw [t.at_ _ (by omega), if_neg (by omega), if_pos (by omega)], by rw [t.at_ _ (by omega), if_neg (by omega), if_neg (by omega), if_pos (by omega)]⟩
    · rw [hu q a b, if_neg e1] at e
      have := r.zero q a b e
      rw [t.at_ _ (by omega), if_neg (by omega), if_neg (by omega), if_neg (by omega), t.at_ _ (by omega), if_neg (by omega), if_neg (by omega), if_neg (by omega)]
      exact this
end Go.Rx
end

section
namespace Go.Rx
theorem Req_el {b : Bool} {A : Prop} (h : Req b A) : b = true ∧ A := by
  cases b with
  | true => exact ⟨rfl, h⟩
  | false => exact h.elim
def altP (p : Nat) (g : FuncId) (s t : Spec) : Spec := ⟨fun args H K => match args[p]? with
  | some (.fn f _) => bif Nat.beq f g then s.tr args H K else t.tr args H K
  | _ => False, s.ro⟩
theorem altP_ok {P : Program} {e : ET} {n g : FuncId} {p : Nat} {s t : Spec} (hs : SpecOK P e n s) (ht : SpecOK P e n t) : SpecOK P e n (altP p g s t) := by
  refine ⟨hs.1, fun args H K h => ?_⟩
  unfold altP at h
  simp only at h
  split at h
  · rename_i f _ _
    cases hb : Nat.beq f g with
    | true => rw [hb] at h; exact hs.2 _ H K h
    | false => rw [hb] at h; exact ht.2 _ H K h
  · exact h.elim
end Go.Rx
end

noncomputable section
namespace Go.Rx
open Go.Proofs
set_option maxRecDepth 100000
set_option maxHeartbeats 4000000
def y7z (m_ : Y23) (args : List V) (H : Heap) (K : V → Heap → Prop) : Prop :=
  aC args fun a0 r => aC r fun a1 r => aN r <| aAgg a0 fun c0 => yq c0 fun l2 => aInt a1 fun p => aN H <| So (m_ l2 p) fun x => K (vb x) []
def y6z (m_ : Y23) : Spec := ⟨y7z m_, (true : Bool)⟩
def y89 (m_ : Y0) (args : List V) (H : Heap) (K : V → Heap → Prop) : Prop :=
  aC args fun a0 r => aC r fun a1 r => aC r fun a2 r => aN r <| aPtr 0 a0 <| aAgg a1 fun c1 => yq c1 fun l2 => aInt a2 fun p => aC H fun b0 r => aC r fun b1 r => aN r <| bView 1 b0 fun ws cur xs => bRow 0 true b1 fun (l : List Int) => ws = l ∧ xs.length ≤ 2 ∧ So (m_ ws.length cur l2 p) fun x => K (vi x) [.pk 0 [ws, cur] xs [.row 1], .row 0 l true]
def y3l (m_ : Y0) : Spec := ⟨y89 m_, (true : Bool)⟩
abbrev Y17 := ya → Int → Int → Option Bool
def y6m (m_ : Y17) (args : List V) (H : Heap) (K : V → Heap → Prop) : Prop :=
  aC args fun a0 r => aC r fun a1 r => aC r fun a2 r => aN r <| aAgg a0 fun c0 => yq c0 fun l2 => aInt a1 fun p => aInt a2 fun n => aN H <| So (m_ l2 p n) fun x => K (vb x) []
def y5q (m_ : Y17) : Spec := ⟨y6m m_, (true : Bool)⟩
abbrev Y21 := Nat → (List Int) → ya → Int → Int → Option Bool
def y82 (m_ : Y21) (args : List V) (H : Heap) (K : V → Heap → Prop) : Prop :=
  aC args fun a0 r => aC r fun a1 r => aC r fun a2 r => aC r fun a3 r => aN r <| aPtr 0 a0 <| aAgg a1 fun c1 => yq c1 fun l2 => aInt a2 fun p => aInt a3 fun n => aC H fun b0 r => aC r fun b1 r => aN r <| bView 1 b0 fun ws cur xs => bRow 0 true b1 fun (l : List Int) => ws = l ∧ xs.length ≤ 2 ∧ So (m_ ws.length cur l2 p n) fun x => K (vb x) [.pk 0 [ws, cur] xs [.row 1], .row 0 l true]
def y9k (m_ : Y21) : Spec := ⟨y82 m_, (true : Bool)⟩
abbrev Y13 := Nat → (List Int) → ya → Int → Int → Int → Option (List Int)
def y5t (m_ : Y13) (args : List V) (H : Heap) (K : V → Heap → Prop) : Prop :=
  aC args fun a0 r => aC r fun a1 r => aC r fun a2 r => aC r fun a3 r => aC r fun a4 r => aN r <| aPtr 0 a0 <| aAgg a1 fun c1 => yq c1 fun l2 => aInt a2 fun p => aInt a3 fun kindv => aInt a4 fun count => aC H fun b0 r => aC r fun b1 r => aN r <| bView 1 b0 fun ws cur xs => bRow 0 true b1 fun (l : List Int) => ws = l ∧ xs.length ≤ 2 ∧ So (m_ ws.length cur l2 p kindv count) fun x => K (.tup []) [.pk 0 [ws, x] xs [.row 1], .row 0 l true]
def y7u (m_ : Y13) : Spec := ⟨y5t m_, (true : Bool)⟩
abbrev Y20 := Nat → (List Int) → Int → ya → Option Bool
def y9r (m_ : Y20) (args : List V) (H : Heap) (K : V → Heap → Prop) : Prop :=
  aC args fun a0 r => aC r fun a1 r => aC r fun a2 r => aN r <| aInt a0 fun p => aPtr 0 a1 <| aPtr 1 a2 <| aC H fun b0 r => aC r fun b1 r => aC r fun b2 r => aC r fun b3 r => aN r <| bCells b0 fun U c0 => aC c0 fun d0_0 r => aPtr 2 d0_0 <| aN r <| bCells b1 fun U2 c1 => yq c1 fun l2 => bView 3 b2 fun ws cur xs => bRow 0 true b3 fun (l : List Int) => ws = l ∧ xs.length ≤ 2 ∧ So (m_ ws.length cur p l2) fun x => K (vb x) [.cells U [.ptr 2 0], .cells U2 (yc l2), .pk 0 [ws, cur] xs [.row 3], .row 0 l true]
def y6j (m_ : Y20) : Spec := ⟨y9r m_, (true : Bool)⟩
abbrev Y37 := Int → Option Bool
def y8i (m_ : Y37) (args : List V) (H : Heap) (K : V → Heap → Prop) : Prop :=
  aC args fun a0 r => aN r <| aInt a0 fun p0 => aN H <| So (m_ p0) fun x => K (vb x) []
def y9o (m_ : Y37) : Spec := ⟨y8i m_, (true : Bool)⟩
abbrev Y30 := Nat → (List Int) → ya → Int → Int → ya → Option Int
def y75 (m_ : Y30) (args : List V) (H : Heap) (K : V → Heap → Prop) : Prop :=
  aC args fun a0 r => aC r fun a1 r => aC r fun a2 r => aC r fun a3 r => aC r fun a4 r => aN r <| aPtr 0 a0 <| aAgg a1 fun c1 => yq c1 fun l2 => aInt a2 fun n => aInt a3 fun step => aFn 127 a4 fun fc4 => aC fc4 fun fp4_0 r => aPtr 1 fp4_0 <| aC r fun fp4_1 r => aPtr 2 fp4_1 <| aN r <| aC H fun b0 r => aC r fun b1 r => aC r fun b2 r => aC r fun b3 r => aN r <| bView 3 b0 fun ws cur xs => bCells b1 fun U c1 => aC c1 fun d1_0 r => aPtr 0 d1_0 <| aN r <| bCells b2 fun U2 c2 => yq c2 fun l3 => bRow 0 true b3 fun (l : List Int) => ws = l ∧ xs.length ≤ 2 ∧ So (m_ ws.length cur l2 n step l3) fun x => K (vi x) [.pk 0 [ws, cur] xs [.row 3], .cells U [.ptr 0 0], .cells U2 (yc l3), .row 0 l true]
def ydl (m_ : Y30) : Spec := ⟨y75 m_, (true : Bool)⟩
abbrev Y3 := Nat → (List Int) → ya → Int → Int → Option Int
def y9v (m_ : Y3) (args : List V) (H : Heap) (K : V → Heap → Prop) : Prop :=
  aC args fun a0 r => aC r fun a1 r => aC r fun a2 r => aC r fun a3 r => aC r fun a4 r => aN r <| aPtr 0 a0 <| aAgg a1 fun c1 => yq c1 fun l2 => aInt a2 fun n => aInt a3 fun step => aFn 131 a4 fun fc4 => aN fc4 <| aC H fun b0 r => aC r fun b1 r => aN r <| bView 1 b0 fun ws cur xs => bRow 0 true b1 fun (l : List Int) => ws = l ∧ xs.length ≤ 2 ∧ So (m_ ws.length cur l2 n step) fun x => K (vi x) [.pk 0 [ws, cur] xs [.row 1], .row 0 l true]
def yde (m_ : Y3) : Spec := ⟨y9v m_, (true : Bool)⟩
def y73 (m_ : Y3) (args : List V) (H : Heap) (K : V → Heap → Prop) : Prop :=
  aC args fun a0 r => aC r fun a1 r => aC r fun a2 r => aC r fun a3 r => aN r <| aPtr 0 a0 <| aAgg a1 fun c1 => yq c1 fun l2 => aInt a2 fun n => aInt a3 fun step => aC H fun b0 r => aC r fun b1 r => aN r <| bView 1 b0 fun ws cur xs => bRow 0 true b1 fun (l : List Int) => ws = l ∧ xs.length ≤ 2 ∧ So (m_ ws.length cur l2 n step) fun x => K (vi x) [.pk 0 [ws, cur] xs [.row 1], .row 0 l true]
def ybo (m_ : Y3) : Spec := ⟨y73 m_, (true : Bool)⟩
def y6b (m_ : Y6) (args : List V) (H : Heap) (K : V → Heap → Prop) : Prop :=
  aC args fun a0 r => aC r fun a1 r => aC r fun a2 r => aC r fun a3 r => aC r fun a4 r => aN r <| aPtr 0 a0 <| aAgg a1 fun c1 => yq c1 fun l2 => aInt a2 fun p => aInt a3 fun n => aInt a4 fun kindv => aC H fun b0 r => aC r fun b1 r => aN r <| bView 1 b0 fun ws cur xs => bRow 0 true b1 fun (l : List Int) => ws = l ∧ xs.length ≤ 2 ∧ So (m_ ws.length cur l2 p n kindv) fun x => K (vb x.1) [.pk 0 [ws, x.2] xs [.row 1], .row 0 l true]
def yct (m_ : Y6) : Spec := ⟨y6b m_, (true : Bool)⟩
def y9h (m_ : Y0) (args : List V) (H : Heap) (K : V → Heap → Prop) : Prop :=
  aC args fun a0 r => aC r fun a1 r => aC r fun a2 r => aN r <| aPtr 0 a0 <| aAgg a1 fun c1 => yq c1 fun l2 => aInt a2 fun p => aC H fun b0 r => aC r fun b1 r => aN r <| bView 1 b0 fun ws cur xs => bRow 0 true b1 fun (l : List Int) => ws = l ∧ xs.length ≤ 2 ∧ So (m_ ws.length cur l2 p) fun x => K (vi x) [.pk 0 [ws, cur] xs [.row 1], .row 0 l true]
def ybx (m_ : Y0) : Spec := ⟨y9h m_, (true : Bool)⟩
abbrev Y29 := Nat → (List Int) → ya → Int → Option (Int × (List Int))
def y9u (m_ : Y29) (args : List V) (H : Heap) (K : V → Heap → Prop) : Prop :=
  aC args fun a0 r => aC r fun a1 r => aC r fun a2 r => aN r <| aPtr 0 a0 <| aAgg a1 fun c1 => yq c1 fun l2 => aInt a2 fun p => aC H fun b0 r => aC r fun b1 r => aN r <| bView 1 b0 fun ws cur xs => bRow 0 true b1 fun (l : List Int) => ws = l ∧ xs.length ≤ 2 ∧ So (m_ ws.length cur l2 p) fun x => K (vi x.1) [.pk 0 [ws, x.2] xs [.row 1], .row 0 l true]
def yac (m_ : Y29) : Spec := ⟨y9u m_, (true : Bool)⟩
def ybe (yh : Y22) : Cfg := { cfgB with
  sigs := (sigC 17 (y3h yh) sigN) }
def yc8 (y0y : Y23) (y02 : Y1) : Cfg := { cfgB with
  sigs := (sigC 101 (y6z y0y) (sigC 18 (y5e y02) (sigC 63 rdS sigN))) }
def yad (y0y : Y23) (yh : Y22) : Cfg := { cfgB with
  sigs := (sigC 101 (y6z y0y) (sigC 17 (y3h yh) sigN)) }
def y32 (yi : Y17) (ye : Y0) : Cfg := { cfgB with
  sigs := (sigC 152 (y5q yi) (sigC 62 (y3l ye) sigN)),
  keep := fun r => match r with | 4 => some [(0, none), (2, none), (5, none), (15, none), (16, none)] | _ => none }
def ycm (y02 yr ym : Y1) : Cfg := { cfgB with
  sigs := (sigC 18 (y5e y02) (sigC 96 wrS (sigC 31 (y48 yr) (sigC 22 (y49 ym) sigN)))) }
def ybn (y0s : Y4) (y2a : Y19) : Cfg := { cfgB with
  sigs := (sigC 129 (y8x y0s) (sigC 128 (ya7 y2a) sigN)),
  plan := fun r => match r with | 1 => some (List.range 6, 16) | _ => none }
def ya1  : Cfg := { cfgB with
  sigs := sigN }
def y0g (yi : Y17) (ye : Y0) (yz : Y20) : Cfg := { cfgB with
  sigs := (sigC 152 (y5q yi) (sigC 62 (y3l ye) (sigC 127 (y6j yz) sigN))),
  keep := fun r => match r with | 2 => some [(0, none), (2, none), (3, none), (4, none), (6, none), (11, none)] | 4 => some [(0, none), (2, none), (3, none), (4, none), (6, none), (11, none), (12, none)] | _ => none }
def y0h (yi : Y17) (ye : Y0) (y00 : Y37) : Cfg := { cfgB with
  sigs := (sigC 152 (y5q yi) (sigC 62 (y3l ye) (sigC 131 (y9o y00) sigN))),
  keep := fun r => match r with | 2 => some [(0, none), (2, none), (3, none), (4, none), (6, none), (11, none)] | 4 => some [(0, none), (2, none), (3, none), (4, none), (6, none), (11, none), (12, none)] | _ => none }
def yb9 (yy : Y21) (yz : Y20) (y2q : Y30) (y36 : Y3) (y00 : Y37) : Cfg := { cfgB with
  sigs := (sigC 126 (y9k yy) (sigC 127 (y6j yz) (sigC 130 (altP 4 131 (yde y36) (ydl y2q)) (sigC 131 (y9o y00) sigN)))) }
def y1d (yy : Y21) (y04 : Y24) (yn : Y13) : Cfg := { cfgB with
  sigs := (sigC 126 (y9k yy) (sigC 132 (yas y04) (sigC 133 (y7u yn) sigN))),
  keep := fun r => match r with | 9 => some [(0, none), (2, none), (3, none), (6, none), (12, none)] | _ => none }
def y2z (ye : Y0) : Cfg := { cfgB with
  sigs := (sigC 62 (y3l ye) sigN),
  keep := fun r => match r with | 3 => some [(0, none), (2, none), (4, none), (7, none)] | _ => none }
def y2y (ye y0l : Y0) (yn : Y13) : Cfg := { cfgB with
  sigs := (sigC 62 (y3l ye) (sigC 140 (ybx y0l) (sigC 133 (y7u yn) sigN))),
  keep := fun r => match r with | 6 => some [(0, none), (2, none), (4, none), (8, none), (24, none), (25, none)] | _ => none }
theorem yg5 (yh : Y22) (l2 : ya) (p : Int) (K : V → Heap → Prop) : (exF (ybe yh) Tryz.f101 [.agg (yc l2), vi p] [] K) = (
    br (decide (p ≥ 0)) (So (yh l2) (fun (y0 : yb) => (K (vb (decide (p < y0.Pages))) []))) (K (vb false) [])) := by kernel_rfl
theorem yja (y0y : Y23) (y02 : Y1) (ws cur : List Int) (xs : List Value) (l2 : ya) (p : Int) (K : V → Heap → Prop) : (exF (yc8 y0y y02) Tryz.f62 [.ptr 0 0, .agg (yc l2), vi p] (hV ws cur xs) K) = (
    So (y0y l2 p) (fun (y0 : Bool) => (br (!y0) (K (vi (-1)) (hV ws cur xs)) (So (y02 l2 p) (fun (y1 : Int) => ((ws = ws) ∧ ((xs.length ≤ 2) ∧ (Req (inR y1 ws.length) (K (vi (rd cur y1)) (hV ws cur xs)))))))))) := by kernel_rfl
theorem ygb (y0y : Y23) (yh : Y22) (l2 : ya) (p n : Int) (K : V → Heap → Prop) : (exF (yad y0y yh) Tryz.f152 [.agg (yc l2), vi p, vi n] [] K) = (
    So (y0y l2 p) (fun (y0 : Bool) => (br y0 (br (decide (n ≥ 1)) (So (yh l2) (fun (y1 : yb) => (K (vb (decide (n ≤ IntKind.i64.wrap (y1.Pages - p)))) []))) (K (vb false) [])) (K (vb false) [])))) := by kernel_rfl
theorem ygt (yi : Y17) (ye : Y0) (ws cur : List Int) (xs : List Value) (l2 : ya) (p n t16 : Int) (K : V → Heap → Prop) (J1 : Env → Heap → Prop) : (ex (y32 yi ye) (⟨27, 2⟩ : Cx) (at_ (bodyOf Tryz.f126) [1, 1, 0, 1, 0, 0]) (mkEnv [(0, .ptr 0 0), (2, vi p), (5, .ptr 2 0), (15, vi n), (16, vi t16)]) [.pk 0 [ws, cur] xs [.row 1], .row 0 ws true, .cells 28 (yc l2)] (roundK (y32 yi ye) (⟨27, 2⟩ : Cx) (at_ (bodyOf Tryz.f126) [1, 1, 0, 1, 0, 0]) (contK (y32 yi ye) (⟨27, 2⟩ : Cx) (bodyOf Tryz.f126) [1, 1, 0, 1, 0] (retK (y32 yi ye) Tryz.f126 2 K)) J1)) = (
    br (decide (t16 < n)) ((ws = ws) ∧ ((xs.length ≤ 2) ∧ (So (ye ws.length cur l2 (IntKind.i64.wrap (p + t16))) (fun (y0 : Int) => (br (y0 != 0) (K (vb false) (hV ws cur xs)) (J1 (mkEnv [(0, .ptr 0 0), (2, vi p), (5, .ptr 2 0), (15, vi n), (16, vi (IntKind.i64.wrap (t16 + 1)))]) [.pk 0 [ws, cur] xs [.row 1], .row 0 ws true, .cells 28 (yc l2)])))))) (K (vb true) (hV ws cur xs))) := by kernel_rfl
theorem yi9 (yi : Y17) (ye : Y0) (ws cur : List Int) (xs : List Value) (l2 : ya) (p n : Int) (K : V → Heap → Prop) : (exF (y32 yi ye) Tryz.f126 [.ptr 0 0, .agg (yc l2), vi p, vi n] (hV ws cur xs) K) = (
    So (yi l2 p n) (fun (y0 : Bool) => (br (!y0) (K (vb false) (hV ws cur xs)) (Loop (y32 yi ye) (⟨27, 2⟩ : Cx) (at_ (bodyOf Tryz.f126) [1, 1, 0, 1, 0, 0]) (mkEnv [(0, .ptr 0 0), (2, vi p), (5, .ptr 2 0), (15, vi n), (16, vi 0)]) [.pk 0 [ws, cur] xs [.row 1], .row 0 ws true, .cells 28 (yc l2)] (contK (y32 yi ye) (⟨27, 2⟩ : Cx) (bodyOf Tryz.f126) [1, 1, 0, 1, 0] (retK (y32 yi ye) Tryz.f126 2 K)))))) := by kernel_rfl
theorem yho (y02 yr ym : Y1) (ws cur : List Int) (xs : List Value) (l2 : ya) (p kindv count : Int) (K : V → Heap → Prop) : (exF (ycm y02 yr ym) Tryz.f133 [.ptr 0 0, .agg (yc l2), vi p, vi kindv, vi count] (hV ws cur xs) K) = (
    So (y02 l2 p) (fun (y0 : Int) => ((ws = ws) ∧ ((xs.length ≤ 2) ∧ (Req (inR y0 ws.length) (So (yr l2 p) (fun (y1 : Int) => ((ws = ws) ∧ ((xs.length ≤ 2) ∧ (Req (inR y1 ws.length) (So (ym l2 p) (fun (y2 : Int) => ((ws = ws) ∧ ((xs.length ≤ 2) ∧ (Req (inR y2 ws.length) (K (.tup []) (hV ws (wr (wr (wr cur y0 kindv) y1 count) y2 0) xs))))))))))))))))) := by kernel_rfl
theorem yj8 (y0s : Y4) (y2a : Y19) (ws cur : List Int) (xs : List Value) (p : Int) (l2 : ya) (U U2 : TypeId) (K : V → Heap → Prop) : (exF (ybn y0s y2a) Tryz.f127 [vi p, .ptr 0 0, .ptr 1 0] [.cells U [.ptr 2 0], .cells U2 (yc l2), .pk 0 [ws, cur] xs [.row 3], .row 0 ws true] K) = (
    So (y0s p) (fun (y0 : Int) => ((ws = ws) ∧ ((xs.length ≤ 2) ∧ (So (y2a ws.length cur l2 y0) (fun (y1 : Bool) => (K (vb y1) [.cells U [.ptr 2 0], .cells U2 (yc l2), .pk 0 [ws, cur] xs [.row 3], .row 0 ws true]))))))) := by kernel_rfl
theorem yh9 (p0 : Int) (K : V → Heap → Prop) : (exF ya1 Tryz.f131 [vi p0] [] K) = (
    K (vb true) []) := by kernel_rfl
theorem yfo (yi : Y17) (ye : Y0) (yz : Y20) (ws cur : List Int) (xs : List Value) (l2 : ya) (n step : Int) (l3 : ya) (U U2 : TypeId) (p iv : Int) (K : V → Heap → Prop) (J1 : Env → Heap → Prop) (J2 : Env → Heap → Prop) : (ex (y0g yi ye yz) (⟨48, 4⟩ : Cx) (at_ (bodyOf Tryz.f130) [1, 0, 1, 1, 0, 0, 0, 1, 0, 0, 1, 0, 0]) (mkEnv [(0, .ptr 0 0), (2, vi n), (3, vi step), (4, .fn 127 [.ptr 1 0, .ptr 2 0]), (6, .ptr 4 0), (11, vi p), (12, vi iv)]) [.pk 0 [ws, cur] xs [.row 3], .cells U [.ptr 0 0], .cells U2 (yc l3), .row 0 ws true, .cells 28 (yc l2)] (roundK (y0g yi ye yz) (⟨48, 4⟩ : Cx) (at_ (bodyOf Tryz.f130) [1, 0, 1, 1, 0, 0, 0, 1, 0, 0, 1, 0, 0]) (contK (y0g yi ye yz) (⟨48, 4⟩ : Cx) (at_ (bodyOf Tryz.f130) [1, 0, 1, 1, 0, 0, 0]) [1, 0, 0, 1, 0] (roundK (y0g yi ye yz) (⟨48, 4⟩ : Cx) (at_ (bodyOf Tryz.f130) [1, 0, 1, 1, 0, 0, 0]) (contK (y0g yi ye yz) (⟨48, 4⟩ : Cx) (bodyOf Tryz.f130) [1, 0, 1, 1, 0, 0] (retK (y0g yi ye yz) Tryz.f130 4 K)) J1)) J2)) = (
    br (decide (iv ≥ 0)) ((ws = ws) ∧ ((xs.length ≤ 2) ∧ (So (ye ws.length cur l2 (IntKind.i64.wrap (p + iv))) (fun (y0 : Int) => (br (y0 != 0) (Req (!step == 0) (J1 (mkEnv [(0, .ptr 0 0), (2, vi n), (3, vi step), (4, .fn 127 [.ptr 1 0, .ptr 2 0]), (6, .ptr 4 0), (11, vi (IntKind.i64.wrap (IntKind.i64.wrap (IntKind.i64.wrap (Int.tdiv (IntKind.i64.wrap (p + iv)) step) * step) + step)))]) [.pk 0 [ws, cur] xs [.row 3], .cells U [.ptr 0 0], .cells U2 (yc l3), .row 0 ws true, .cells 28 (yc l2)])) ((ws = ws) ∧ ((xs.length ≤ 2) ∧ (So (yz ws.length cur (IntKind.i64.wrap (p + iv)) l3) (fun (y1 : Bool) => (br (!y1) (Req (!step == 0) (J1 (mkEnv [(0, .ptr 0 0), (2, vi n), (3, vi step), (4, .fn 127 [.ptr 1 0, .ptr 2 0]), (6, .ptr 4 0), (11, vi (IntKind.i64.wrap (IntKind.i64.wrap (IntKind.i64.wrap (Int.tdiv (IntKind.i64.wrap (p + iv)) step) * step) + step)))]) [.pk 0 [ws, cur] xs [.row 3], .cells U [.ptr 0 0], .cells U2 (yc l3), .row 0 ws true, .cells 28 (yc l2)])) (J2 (mkEnv [(0, .ptr 0 0), (2, vi n), (3, vi step), (4, .fn 127 [.ptr 1 0, .ptr 2 0]), (6, .ptr 4 0), (11, vi p), (12, vi (IntKind.i64.wrap (iv - 1)))]) [.pk 0 [ws, cur] xs [.row 3], .cells U [.ptr 0 0], .cells U2 (yc l3), .row 0 ws true, .cells 28 (yc l2)]))))))))))) (K (vi p) [.pk 0 [ws, cur] xs [.row 3], .cells U [.ptr 0 0], .cells U2 (yc l3), .row 0 ws true])) := by kernel_rfl
theorem yex (yi : Y17) (ye : Y0) (yz : Y20) (ws cur : List Int) (xs : List Value) (l2 : ya) (n step : Int) (l3 : ya) (U U2 : TypeId) (p : Int) (K : V → Heap → Prop) (J1 : Env → Heap → Prop) : (ex (y0g yi ye yz) (⟨48, 4⟩ : Cx) (at_ (bodyOf Tryz.f130) [1, 0, 1, 1, 0, 0, 0]) (mkEnv [(0, .ptr 0 0), (2, vi n), (3, vi step), (4, .fn 127 [.ptr 1 0, .ptr 2 0]), (6, .ptr 4 0), (11, vi p)]) [.pk 0 [ws, cur] xs [.row 3], .cells U [.ptr 0 0], .cells U2 (yc l3), .row 0 ws true, .cells 28 (yc l2)] (roundK (y0g yi ye yz) (⟨48, 4⟩ : Cx) (at_ (bodyOf Tryz.f130) [1, 0, 1, 1, 0, 0, 0]) (contK (y0g yi ye yz) (⟨48, 4⟩ : Cx) (bodyOf Tryz.f130) [1, 0, 1, 1, 0, 0] (retK (y0g yi ye yz) Tryz.f130 4 K)) J1)) = (
    So (yi l2 p n) (fun (y0 : Bool) => (br y0 (Loop (y0g yi ye yz) (⟨48, 4⟩ : Cx) (at_ (bodyOf Tryz.f130) [1, 0, 1, 1, 0, 0, 0, 1, 0, 0, 1, 0, 0]) (mkEnv [(0, .ptr 0 0), (2, vi n), (3, vi step), (4, .fn 127 [.ptr 1 0, .ptr 2 0]), (6, .ptr 4 0), (11, vi p), (12, vi (IntKind.i64.wrap (n - 1)))]) [.pk 0 [ws, cur] xs [.row 3], .cells U [.ptr 0 0], .cells U2 (yc l3), .row 0 ws true, .cells 28 (yc l2)] (contK (y0g yi ye yz) (⟨48, 4⟩ : Cx) (at_ (bodyOf Tryz.f130) [1, 0, 1, 1, 0, 0, 0]) [1, 0, 0, 1, 0] (roundK (y0g yi ye yz) (⟨48, 4⟩ : Cx) (at_ (bodyOf Tryz.f130) [1, 0, 1, 1, 0, 0, 0]) (contK (y0g yi ye yz) (⟨48, 4⟩ : Cx) (bodyOf Tryz.f130) [1, 0, 1, 1, 0, 0] (retK (y0g yi ye yz) Tryz.f130 4 K)) J1))) (K (vi (-1)) [.pk 0 [ws, cur] xs [.row 3], .cells U [.ptr 0 0], .cells U2 (yc l3), .row 0 ws true])))) := by kernel_rfl
theorem yfn (yi : Y17) (ye : Y0) (yz : Y20) (ws cur : List Int) (xs : List Value) (l2 : ya) (n step : Int) (l3 : ya) (U U2 : TypeId) (K : V → Heap → Prop) : (exF (y0g yi ye yz) Tryz.f130 [.ptr 0 0, .agg (yc l2), vi n, vi step, .fn 127 [.ptr 1 0, .ptr 2 0]] [.pk 0 [ws, cur] xs [.row 3], .cells U [.ptr 0 0], .cells U2 (yc l3), .row 0 ws true] K) = (
    Loop (y0g yi ye yz) (⟨48, 4⟩ : Cx) (at_ (bodyOf Tryz.f130) [1, 0, 1, 1, 0, 0, 0]) (mkEnv [(0, .ptr 0 0), (2, vi n), (3, vi step), (4, .fn 127 [.ptr 1 0, .ptr 2 0]), (6, .ptr 4 0), (11, vi 0)]) [.pk 0 [ws, cur] xs [.row 3], .cells U [.ptr 0 0], .cells U2 (yc l3), .row 0 ws true, .cells 28 (yc l2)] (contK (y0g yi ye yz) (⟨48, 4⟩ : Cx) (bodyOf Tryz.f130) [1, 0, 1, 1, 0, 0] (retK (y0g yi ye yz) Tryz.f130 4 K))) := by kernel_rfl
theorem yfq (yi : Y17) (ye : Y0) (y00 : Y37) (ws cur : List Int) (xs : List Value) (l2 : ya) (n step : Int) (p iv : Int) (K : V → Heap → Prop) (J1 : Env → Heap → Prop) (J2 : Env → Heap → Prop) : (ex (y0h yi ye y00) (⟨48, 2⟩ : Cx) (at_ (bodyOf Tryz.f130) [1, 0, 1, 1, 0, 0, 0, 1, 0, 0, 1, 0, 0]) (mkEnv [(0, .ptr 0 0), (2, vi n), (3, vi step), (4, .fn 131 []), (6, .ptr 2 0), (11, vi p), (12, vi iv)]) [.pk 0 [ws, cur] xs [.row 1], .row 0 ws true, .cells 28 (yc l2)] (roundK (y0h yi ye y00) (⟨48, 2⟩ : Cx) (at_ (bodyOf Tryz.f130) [1, 0, 1, 1, 0, 0, 0, 1, 0, 0, 1, 0, 0]) (contK (y0h yi ye y00) (⟨48, 2⟩ : Cx) (at_ (bodyOf Tryz.f130) [1, 0, 1, 1, 0, 0, 0]) [1, 0, 0, 1, 0] (roundK (y0h yi ye y00) (⟨48, 2⟩ : Cx) (at_ (bodyOf Tryz.f130) [1, 0, 1, 1, 0, 0, 0]) (contK (y0h yi ye y00) (⟨48, 2⟩ : Cx) (bodyOf Tryz.f130) [1, 0, 1, 1, 0, 0] (retK (y0h yi ye y00) Tryz.f130 2 K)) J1)) J2)) = (
    br (decide (iv ≥ 0)) ((ws = ws) ∧ ((xs.length ≤ 2) ∧ (So (ye ws.length cur l2 (IntKind.i64.wrap (p + iv))) (fun (y0 : Int) => (br (y0 != 0) (Req (!step == 0) (J1 (mkEnv [(0, .ptr 0 0), (2, vi n), (3, vi step), (4, .fn 131 []), (6, .ptr 2 0), (11, vi (IntKind.i64.wrap (IntKind.i64.wrap (IntKind.i64.wrap (Int.tdiv (IntKind.i64.wrap (p + iv)) step) * step) + step)))]) [.pk 0 [ws, cur] xs [.row 1], .row 0 ws true, .cells 28 (yc l2)])) (So (y00 (IntKind.i64.wrap (p + iv))) (fun (y1 : Bool) => (br (!y1) (Req (!step == 0) (J1 (mkEnv [(0, .ptr 0 0), (2, vi n), (3, vi step), (4, .fn 131 []), (6, .ptr 2 0), (11, vi (IntKind.i64.wrap (IntKind.i64.wrap (IntKind.i64.wrap (Int.tdiv (IntKind.i64.wrap (p + iv)) step) * step) + step)))]) [.pk 0 [ws, cur] xs [.row 1], .row 0 ws true, .cells 28 (yc l2)])) (J2 (mkEnv [(0, .ptr 0 0), (2, vi n), (3, vi step), (4, .fn 131 []), (6, .ptr 2 0), (11, vi p), (12, vi (IntKind.i64.wrap (iv - 1)))]) [.pk 0 [ws, cur] xs [.row 1], .row 0 ws true, .cells 28 (yc l2)]))))))))) (K (vi p) (hV ws cur xs))) := by kernel_rfl
theorem yhe (yi : Y17) (ye : Y0) (y00 : Y37) (ws cur : List Int) (xs : List Value) (l2 : ya) (n step p : Int) (K : V → Heap → Prop) (J1 : Env → Heap → Prop) : (ex (y0h yi ye y00) (⟨48, 2⟩ : Cx) (at_ (bodyOf Tryz.f130) [1, 0, 1, 1, 0, 0, 0]) (mkEnv [(0, .ptr 0 0), (2, vi n), (3, vi step), (4, .fn 131 []), (6, .ptr 2 0), (11, vi p)]) [.pk 0 [ws, cur] xs [.row 1], .row 0 ws true, .cells 28 (yc l2)] (roundK (y0h yi ye y00) (⟨48, 2⟩ : Cx) (at_ (bodyOf Tryz.f130) [1, 0, 1, 1, 0, 0, 0]) (contK (y0h yi ye y00) (⟨48, 2⟩ : Cx) (bodyOf Tryz.f130) [1, 0, 1, 1, 0, 0] (retK (y0h yi ye y00) Tryz.f130 2 K)) J1)) = (
    So (yi l2 p n) (fun (y0 : Bool) => (br y0 (Loop (y0h yi ye y00) (⟨48, 2⟩ : Cx) (at_ (bodyOf Tryz.f130) [1, 0, 1, 1, 0, 0, 0, 1, 0, 0, 1, 0, 0]) (mkEnv [(0, .ptr 0 0), (2, vi n), (3, vi step), (4, .fn 131 []), (6, .ptr 2 0), (11, vi p), (12, vi (IntKind.i64.wrap (n - 1)))]) [.pk 0 [ws, cur] xs [.row 1], .row 0 ws true, .cells 28 (yc l2)] (contK (y0h yi ye y00) (⟨48, 2⟩ : Cx) (at_ (bodyOf Tryz.f130) [1, 0, 1, 1, 0, 0, 0]) [1, 0, 0, 1, 0] (roundK (y0h yi ye y00) (⟨48, 2⟩ : Cx) (at_ (bodyOf Tryz.f130) [1, 0, 1, 1, 0, 0, 0]) (contK (y0h yi ye y00) (⟨48, 2⟩ : Cx) (bodyOf Tryz.f130) [1, 0, 1, 1, 0, 0] (retK (y0h yi ye y00) Tryz.f130 2 K)) J1))) (K (vi (-1)) (hV ws cur xs))))) := by kernel_rfl
theorem yht (yi : Y17) (ye : Y0) (y00 : Y37) (ws cur : List Int) (xs : List Value) (l2 : ya) (n step : Int) (K : V → Heap → Prop) : (exF (y0h yi ye y00) Tryz.f130 [.ptr 0 0, .agg (yc l2), vi n, vi step, .fn 131 []] (hV ws cur xs) K) = (
    Loop (y0h yi ye y00) (⟨48, 2⟩ : Cx) (at_ (bodyOf Tryz.f130) [1, 0, 1, 1, 0, 0, 0]) (mkEnv [(0, .ptr 0 0), (2, vi n), (3, vi step), (4, .fn 131 []), (6, .ptr 2 0), (11, vi 0)]) [.pk 0 [ws, cur] xs [.row 1], .row 0 ws true, .cells 28 (yc l2)] (contK (y0h yi ye y00) (⟨48, 2⟩ : Cx) (bodyOf Tryz.f130) [1, 0, 1, 1, 0, 0] (retK (y0h yi ye y00) Tryz.f130 2 K))) := by kernel_rfl
theorem ygv (yy : Y21) (yz : Y20) (y2q : Y30) (y36 : Y3) (y00 : Y37) (ws cur : List Int) (xs : List Value) (l2 : ya) (n step : Int) (K : V → Heap → Prop) : (exF (yb9 yy yz y2q y36 y00) Tryz.f94 [.ptr 0 0, .agg (yc l2), vi n, vi step] (hV ws cur xs) K) = (
    br (decide (n < 1)) (br (decide (n ≥ 1)) (br (decide (step > 256)) ((ws = ws) ∧ ((xs.length ≤ 2) ∧ (So (yy ws.length cur l2 0 n) (fun (y0 : Bool) => (br y0 (K (vi 0) (hV ws cur xs)) (K (vi (-1)) (hV ws cur xs))))))) (K (vi (-1)) (hV ws cur xs))) (K (vi (-1)) (hV ws cur xs))) (br (decide (step < 1)) (br (decide (n ≥ 1)) (br (decide (step > 256)) ((ws = ws) ∧ ((xs.length ≤ 2) ∧ (So (yy ws.length cur l2 0 n) (fun (y1 : Bool) => (br y1 (K (vi 0) (hV ws cur xs)) (K (vi (-1)) (hV ws cur xs))))))) (K (vi (-1)) (hV ws cur xs))) (K (vi (-1)) (hV ws cur xs))) (br (decide (step > 256)) (br (decide (n ≥ 1)) (br (decide (step > 256)) ((ws = ws) ∧ ((xs.length ≤ 2) ∧ (So (yy ws.length cur l2 0 n) (fun (y2 : Bool) => (br y2 (K (vi 0) (hV ws cur xs)) (K (vi (-1)) (hV ws cur xs))))))) (K (vi (-1)) (hV ws cur xs))) (K (vi (-1)) (hV ws cur xs))) ((ws = ws) ∧ ((xs.length ≤ 2) ∧ (So (y2q ws.length cur l2 n step l2) (fun (y3 : Int) => (br (y3 != -1) (K (vi y3) (hV ws cur xs)) ((ws = ws) ∧ ((xs.length ≤ 2) ∧ (So (y36 ws.length cur l2 n step) (fun (y4 : Int) => (K (vi y4) (hV ws cur xs)))))))))))))) := by kernel_rfl
theorem yfp (yy : Y21) (y04 : Y24) (yn : Y13) (ws cur : List Int) (xs : List Value) (l2 : ya) (p n : Int) (kindv iv : Int) (cur2 : List Int) (K : V → Heap → Prop) (J1 : Env → Heap → Prop) : (ex (y1d yy y04 yn) (⟨60, 2⟩ : Cx) (at_ (bodyOf Tryz.f95) [1, 1, 1, 1, 1, 1, 0, 1, 0, 0]) (mkEnv [(0, .ptr 0 0), (2, vi p), (3, vi n), (6, .ptr 2 0), (12, vi iv)]) [.pk 0 [ws, cur2] xs [.row 1], .row 0 ws true, .cells 28 (yc l2)] (roundK (y1d yy y04 yn) (⟨60, 2⟩ : Cx) (at_ (bodyOf Tryz.f95) [1, 1, 1, 1, 1, 1, 0, 1, 0, 0]) (contK (y1d yy y04 yn) (⟨60, 2⟩ : Cx) (bodyOf Tryz.f95) [1, 1, 1, 1, 1, 1, 0, 1, 0] (retK (y1d yy y04 yn) Tryz.f95 2 K)) J1)) = (
    br (decide (iv < n)) ((ws = ws) ∧ ((xs.length ≤ 2) ∧ (So (yn ws.length cur2 l2 (IntKind.i64.wrap (p + iv)) 7 0) (fun (y0 : List Int) => (J1 (mkEnv [(0, .ptr 0 0), (2, vi p), (3, vi n), (6, .ptr 2 0), (12, vi (IntKind.i64.wrap (iv + 1)))]) [.pk 0 [ws, y0] xs [.row 1], .row 0 ws true, .cells 28 (yc l2)]))))) (K (vb true) (hV ws cur2 xs))) := by kernel_rfl
theorem yj6 (yy : Y21) (y04 : Y24) (yn : Y13) (ws cur : List Int) (xs : List Value) (l2 : ya) (p n kindv : Int) (K : V → Heap → Prop) : (exF (y1d yy y04 yn) Tryz.f95 [.ptr 0 0, .agg (yc l2), vi p, vi n, vi kindv] (hV ws cur xs) K) = (
    br (decide (kindv < 1)) (K (vb false) (hV ws cur xs)) (br (decide (kindv > 6)) (K (vb false) (hV ws cur xs)) (br (decide (kindv < 6)) (br (n != 1) (K (vb false) (hV ws cur xs)) ((ws = ws) ∧ ((xs.length ≤ 2) ∧ (So (yy ws.length cur l2 p n) (fun (y0 : Bool) => (br (!y0) (K (vb false) (hV ws cur xs)) ((ws = ws) ∧ ((xs.length ≤ 2) ∧ (So (y04 ws.length cur l2 p n) (fun (y1 : Int × List Int) => (br (kindv == 6) ((ws = ws) ∧ ((xs.length ≤ 2) ∧ (So (yn ws.length y1.2 l2 p kindv n) (fun (y2 : List Int) => (Loop (y1d yy y04 yn) (⟨60, 2⟩ : Cx) (at_ (bodyOf Tryz.f95) [1, 1, 1, 1, 1, 1, 0, 1, 0, 0]) (mkEnv [(0, .ptr 0 0), (2, vi p), (3, vi n), (6, .ptr 2 0), (12, vi 1)]) [.pk 0 [ws, y2] xs [.row 1], .row 0 ws true, .cells 28 (yc l2)] (contK (y1d yy y04 yn) (⟨60, 2⟩ : Cx) (bodyOf Tryz.f95) [1, 1, 1, 1, 1, 1, 0, 1, 0] (retK (y1d yy y04 yn) Tryz.f95 2 K))))))) ((ws = ws) ∧ ((xs.length ≤ 2) ∧ (So (yn ws.length y1.2 l2 p kindv 0) (fun (y3 : List Int) => (Loop (y1d yy y04 yn) (⟨60, 2⟩ : Cx) (at_ (bodyOf Tryz.f95) [1, 1, 1, 1, 1, 1, 0, 1, 0, 0]) (mkEnv [(0, .ptr 0 0), (2, vi p), (3, vi n), (6, .ptr 2 0), (12, vi 1)]) [.pk 0 [ws, y3] xs [.row 1], .row 0 ws true, .cells 28 (yc l2)] (contK (y1d yy y04 yn) (⟨60, 2⟩ : Cx) (bodyOf Tryz.f95) [1, 1, 1, 1, 1, 1, 0, 1, 0] (retK (y1d yy y04 yn) Tryz.f95 2 K)))))))))))))))))) ((ws = ws) ∧ ((xs.length ≤ 2) ∧ (So (yy ws.length cur l2 p n) (fun (y4 : Bool) => (br (!y4) (K (vb false) (hV ws cur xs)) ((ws = ws) ∧ ((xs.length ≤ 2) ∧ (So (y04 ws.length cur l2 p n) (fun (y5 : Int × List Int) => (br (kindv == 6) ((ws = ws) ∧ ((xs.length ≤ 2) ∧ (So (yn ws.length y5.2 l2 p kindv n) (fun (y6 : List Int) => (Loop (y1d yy y04 yn) (⟨60, 2⟩ : Cx) (at_ (bodyOf Tryz.f95) [1, 1, 1, 1, 1, 1, 0, 1, 0, 0]) (mkEnv [(0, .ptr 0 0), (2, vi p), (3, vi n), (6, .ptr 2 0), (12, vi 1)]) [.pk 0 [ws, y6] xs [.row 1], .row 0 ws true, .cells 28 (yc l2)] (contK (y1d yy y04 yn) (⟨60, 2⟩ : Cx) (bodyOf Tryz.f95) [1, 1, 1, 1, 1, 1, 0, 1, 0] (retK (y1d yy y04 yn) Tryz.f95 2 K))))))) ((ws = ws) ∧ ((xs.length ≤ 2) ∧ (So (yn ws.length y5.2 l2 p kindv 0) (fun (y7 : List Int) => (Loop (y1d yy y04 yn) (⟨60, 2⟩ : Cx) (at_ (bodyOf Tryz.f95) [1, 1, 1, 1, 1, 1, 0, 1, 0, 0]) (mkEnv [(0, .ptr 0 0), (2, vi p), (3, vi n), (6, .ptr 2 0), (12, vi 1)]) [.pk 0 [ws, y7] xs [.row 1], .row 0 ws true, .cells 28 (yc l2)] (contK (y1d yy y04 yn) (⟨60, 2⟩ : Cx) (bodyOf Tryz.f95) [1, 1, 1, 1, 1, 1, 0, 1, 0] (retK (y1d yy y04 yn) Tryz.f95 2 K)))))))))))))))))))) := by kernel_rfl
theorem ygq (ye : Y0) (ws cur : List Int) (xs : List Value) (l2 : ya) (p n : Int) (K : V → Heap → Prop) (J1 : Env → Heap → Prop) : (ex (y2z ye) (⟨23, 2⟩ : Cx) (at_ (bodyOf Tryz.f140) [1, 1, 0, 1, 0, 0, 0]) (mkEnv [(0, .ptr 0 0), (2, vi p), (4, .ptr 2 0), (7, vi n)]) [.pk 0 [ws, cur] xs [.row 1], .row 0 ws true, .cells 28 (yc l2)] (roundK (y2z ye) (⟨23, 2⟩ : Cx) (at_ (bodyOf Tryz.f140) [1, 1, 0, 1, 0, 0, 0]) (contK (y2z ye) (⟨23, 2⟩ : Cx) (bodyOf Tryz.f140) [1, 1, 0, 1, 0, 0] (retK (y2z ye) Tryz.f140 2 K)) J1)) = (
    ((ws = ws) ∧ ((xs.length ≤ 2) ∧ (So (ye ws.length cur l2 (IntKind.i64.wrap (p + n))) (fun (y0 : Int) => (br (y0 == 7) (J1 (mkEnv [(0, .ptr 0 0), (2, vi p), (4, .ptr 2 0), (7, vi (IntKind.i64.wrap (n + 1)))]) [.pk 0 [ws, cur] xs [.row 1], .row 0 ws true, .cells 28 (yc l2)]) (K (vi n) (hV ws cur xs)))))))) := by kernel_rfl
theorem yie (ye : Y0) (ws cur : List Int) (xs : List Value) (l2 : ya) (p : Int) (K : V → Heap → Prop) : (exF (y2z ye) Tryz.f140 [.ptr 0 0, .agg (yc l2), vi p] (hV ws cur xs) K) = (
    ((ws = ws) ∧ ((xs.length ≤ 2) ∧ (So (ye ws.length cur l2 p) (fun (y0 : Int) => (br (y0 == 6) (Loop (y2z ye) (⟨23, 2⟩ : Cx) (at_ (bodyOf Tryz.f140) [1, 1, 0, 1, 0, 0, 0]) (mkEnv [(0, .ptr 0 0), (2, vi p), (4, .ptr 2 0), (7, vi 1)]) [.pk 0 [ws, cur] xs [.row 1], .row 0 ws true, .cells 28 (yc l2)] (contK (y2z ye) (⟨23, 2⟩ : Cx) (bodyOf Tryz.f140) [1, 1, 0, 1, 0, 0] (retK (y2z ye) Tryz.f140 2 K))) (K (vi 1) (hV ws cur xs)))))))) := by kernel_rfl
theorem yh4 (ye y0l : Y0) (yn : Y13) (ws cur : List Int) (xs : List Value) (l2 : ya) (p n : Int) (t24 t25 : Int) (cur2 : List Int) (K : V → Heap → Prop) (J1 : Env → Heap → Prop) : (ex (y2y ye y0l yn) (⟨36, 2⟩ : Cx) (at_ (bodyOf Tryz.f98) [1, 1, 1, 0, 1, 0, 0]) (mkEnv [(0, .ptr 0 0), (2, vi p), (4, .ptr 2 0), (8, vi n), (24, vi t24), (25, vi t25)]) [.pk 0 [ws, cur2] xs [.row 1], .row 0 ws true, .cells 28 (yc l2)] (roundK (y2y ye y0l yn) (⟨36, 2⟩ : Cx) (at_ (bodyOf Tryz.f98) [1, 1, 1, 0, 1, 0, 0]) (contK (y2y ye y0l yn) (⟨36, 2⟩ : Cx) (bodyOf Tryz.f98) [1, 1, 1, 0, 1, 0] (retK (y2y ye y0l yn) Tryz.f98 2 K)) J1)) = (
    br (decide (t25 < t24)) ((ws = ws) ∧ ((xs.length ≤ 2) ∧ (So (yn ws.length cur2 l2 (IntKind.i64.wrap (p + t25)) 0 0) (fun (y0 : List Int) => (J1 (mkEnv [(0, .ptr 0 0), (2, vi p), (4, .ptr 2 0), (8, vi n), (24, vi t24), (25, vi (IntKind.i64.wrap (t25 + 1)))]) [.pk 0 [ws, y0] xs [.row 1], .row 0 ws true, .cells 28 (yc l2)]))))) (K (vi n) (hV ws cur2 xs))) := by kernel_rfl
theorem yf4 (ye y0l : Y0) (yn : Y13) (ws cur : List Int) (xs : List Value) (l2 : ya) (p : Int) (K : V → Heap → Prop) : (exF (y2y ye y0l yn) Tryz.f98 [.ptr 0 0, .agg (yc l2), vi p] (hV ws cur xs) K) = (
    ((ws = ws) ∧ ((xs.length ≤ 2) ∧ (So (ye ws.length cur l2 p) (fun (y0 : Int) => (br (decide (y0 ≤ 0)) (K (vi 0) (hV ws cur xs)) (br (decide (y0 ≥ 7)) (K (vi 0) (hV ws cur xs)) ((ws = ws) ∧ ((xs.length ≤ 2) ∧ (So (y0l ws.length cur l2 p) (fun (y1 : Int) => (Loop (y2y ye y0l yn) (⟨36, 2⟩ : Cx) (at_ (bodyOf Tryz.f98) [1, 1, 1, 0, 1, 0, 0]) (mkEnv [(0, .ptr 0 0), (2, vi p), (4, .ptr 2 0), (8, vi y1), (24, vi y1), (25, vi 0)]) [.pk 0 [ws, cur] xs [.row 1], .row 0 ws true, .cells 28 (yc l2)] (contK (y2y ye y0l yn) (⟨36, 2⟩ : Cx) (bodyOf Tryz.f98) [1, 1, 1, 0, 1, 0] (retK (y2y ye y0l yn) Tryz.f98 2 K)))))))))))))) := by kernel_rfl
def y0y (l2 : ya) (p : Int) : Option Bool :=
  (bif (decide (p ≥ 0)) then ((yh l2).bind fun y0 => some (decide (p < y0.Pages))) else some false)
def ye (nw : Nat) (cur : List Int) (l2 : ya) (p : Int) : Option Int :=
  ((y0y l2 p).bind fun y0 => (bif (!y0) then some (-1) else ((y02 l2 p).bind fun y1 => (bif (inR y1 nw) then some (rd cur y1) else none))))
def yi (l2 : ya) (p n : Int) : Option Bool :=
  ((y0y l2 p).bind fun y0 => (bif y0 then (bif (decide (n ≥ 1)) then ((yh l2).bind fun y1 => some (decide (n ≤ IntKind.i64.wrap (y1.Pages - p)))) else some false) else some false))
def y4d (nw : Nat) (cur : List Int) (l2 : ya) (p n t16 : Int) : Option (Int ⊕ Bool) :=
  (bif (decide (t16 < n)) then ((ye nw cur l2 (IntKind.i64.wrap (p + t16))).bind fun y0 => (bif (y0 != 0) then some (.inr false) else some (.inl (IntKind.i64.wrap (t16 + 1))))) else some (.inr true))
def yej (nw : Nat) (cur : List Int) (l2 : ya) (p n s : Int) : Option Bool :=
  loopO (fun s => y4d nw cur l2 p n s) s
def yy (nw : Nat) (cur : List Int) (l2 : ya) (p n : Int) : Option Bool :=
  ((yi l2 p n).bind fun y0 => (bif (!y0) then some false else (yej nw cur l2 p n 0)))
def yn (nw : Nat) (cur : List Int) (l2 : ya) (p kindv count : Int) : Option (List Int) :=
  ((y02 l2 p).bind fun y0 => (bif (inR y0 nw) then ((yr l2 p).bind fun y1 => (bif (inR y1 nw) then ((ym l2 p).bind fun y2 => (bif (inR y2 nw) then some (wr (wr (wr cur y0 kindv) y1 count) y2 0) else none)) else none)) else none))
def yz (nw : Nat) (cur : List Int) (p : Int) (l2 : ya) : Option Bool :=
  ((y0s p).bind fun y0 => ((y2a nw cur l2 y0).bind fun y1 => some y1))
def y00 (p0 : Int) : Option Bool :=
  some true
def y3u (nw : Nat) (cur : List Int) (l2 : ya) (step : Int) (l3 : ya) (p iv : Int) : Option (Int ⊕ (Int ⊕ Int)) :=
  (bif (decide (iv ≥ 0)) then ((ye nw cur l2 (IntKind.i64.wrap (p + iv))).bind fun y0 => (bif (y0 != 0) then (bif (!step == 0) then some (.inr (.inl (IntKind.i64.wrap (IntKind.i64.wrap (IntKind.i64.wrap (Int.tdiv (IntKind.i64.wrap (p + iv)) step) * step) + step)))) else none) else ((yz nw cur (IntKind.i64.wrap (p + iv)) l3).bind fun y1 => (bif (!y1) then (bif (!step == 0) then some (.inr (.inl (IntKind.i64.wrap (IntKind.i64.wrap (IntKind.i64.wrap (Int.tdiv (IntKind.i64.wrap (p + iv)) step) * step) + step)))) else none) else some (.inl (IntKind.i64.wrap (iv - 1))))))) else some (.inr (.inr p)))
def yb5 (nw : Nat) (cur : List Int) (l2 : ya) (step : Int) (l3 : ya) (p s : Int) : Option (Int ⊕ Int) :=
  loopO (fun s => y3u nw cur l2 step l3 p s) s
def y41 (nw : Nat) (cur : List Int) (l2 : ya) (n step : Int) (l3 : ya) (p : Int) : Option (Int ⊕ Int) :=
  ((yi l2 p n).bind fun y0 => (bif y0 then (yb5 nw cur l2 step l3 p (IntKind.i64.wrap (n - 1))) else some (.inr (-1))))
def yaf (nw : Nat) (cur : List Int) (l2 : ya) (n step : Int) (l3 : ya) (s : Int) : Option Int :=
  loopO (fun s => y41 nw cur l2 n step l3 s) s
def y2q (nw : Nat) (cur : List Int) (l2 : ya) (n step : Int) (l3 : ya) : Option Int :=
  (yaf nw cur l2 n step l3 0)
def y3v (nw : Nat) (cur : List Int) (l2 : ya) (step p iv : Int) : Option (Int ⊕ (Int ⊕ Int)) :=
  (bif (decide (iv ≥ 0)) then ((ye nw cur l2 (IntKind.i64.wrap (p + iv))).bind fun y0 => (bif (y0 != 0) then (bif (!step == 0) then some (.inr (.inl (IntKind.i64.wrap (IntKind.i64.wrap (IntKind.i64.wrap (Int.tdiv (IntKind.i64.wrap (p + iv)) step) * step) + step)))) else none) else ((y00 (IntKind.i64.wrap (p + iv))).bind fun y1 => (bif (!y1) then (bif (!step == 0) then some (.inr (.inl (IntKind.i64.wrap (IntKind.i64.wrap (IntKind.i64.wrap (Int.tdiv (IntKind.i64.wrap (p + iv)) step) * step) + step)))) else none) else some (.inl (IntKind.i64.wrap (iv - 1))))))) else some (.inr (.inr p)))
def yeh (nw : Nat) (cur : List Int) (l2 : ya) (step p s : Int) : Option (Int ⊕ Int) :=
  loopO (fun s => y3v nw cur l2 step p s) s
def y43 (nw : Nat) (cur : List Int) (l2 : ya) (n step p : Int) : Option (Int ⊕ Int) :=
  ((yi l2 p n).bind fun y0 => (bif y0 then (yeh nw cur l2 step p (IntKind.i64.wrap (n - 1))) else some (.inr (-1))))
def ye5 (nw : Nat) (cur : List Int) (l2 : ya) (n step s : Int) : Option Int :=
  loopO (fun s => y43 nw cur l2 n step s) s
def y36 (nw : Nat) (cur : List Int) (l2 : ya) (n step : Int) : Option Int :=
  (ye5 nw cur l2 n step 0)
def y2m (nw : Nat) (cur : List Int) (l2 : ya) (n step : Int) : Option Int :=
  (bif (decide (n < 1)) then (bif (decide (n ≥ 1)) then (bif (decide (step > 256)) then ((yy nw cur l2 0 n).bind fun y0 => (bif y0 then some 0 else some (-1))) else some (-1)) else some (-1)) else (bif (decide (step < 1)) then (bif (decide (n ≥ 1)) then (bif (decide (step > 256)) then ((yy nw cur l2 0 n).bind fun y1 => (bif y1 then some 0 else some (-1))) else some (-1)) else some (-1)) else (bif (decide (step > 256)) then (bif (decide (n ≥ 1)) then (bif (decide (step > 256)) then ((yy nw cur l2 0 n).bind fun y2 => (bif y2 then some 0 else some (-1))) else some (-1)) else some (-1)) else ((y2q nw cur l2 n step l2).bind fun y3 => (bif (y3 != -1) then some y3 else ((y36 nw cur l2 n step).bind fun y4 => some y4))))))
def y4q (nw : Nat) (l2 : ya) (p n iv : Int) (cur2 : List Int) : Option ((Int × (List Int)) ⊕ (Bool × (List Int))) :=
  (bif (decide (iv < n)) then ((yn nw cur2 l2 (IntKind.i64.wrap (p + iv)) 7 0).bind fun y0 => some (.inl ((IntKind.i64.wrap (iv + 1)), y0))) else some (.inr (true, cur2)))
def y3j (nw : Nat) (l2 : ya) (p n : Int) (s : Int × (List Int)) : Option (Bool × (List Int)) :=
  loopO (fun s => y4q nw l2 p n s.1 s.2) s
def y1p (nw : Nat) (cur : List Int) (l2 : ya) (p n kindv : Int) : Option (Bool × (List Int)) :=
  (bif (decide (kindv < 1)) then some (false, cur) else (bif (decide (kindv > 6)) then some (false, cur) else (bif (decide (kindv < 6)) then (bif (n != 1) then some (false, cur) else ((yy nw cur l2 p n).bind fun y0 => (bif (!y0) then some (false, cur) else ((y04 nw cur l2 p n).bind fun y1 => (bif (kindv == 6) then ((yn nw y1.2 l2 p kindv n).bind fun y2 => (y3j nw l2 p n (1, y2))) else ((yn nw y1.2 l2 p kindv 0).bind fun y3 => (y3j nw l2 p n (1, y3)))))))) else ((yy nw cur l2 p n).bind fun y4 => (bif (!y4) then some (false, cur) else ((y04 nw cur l2 p n).bind fun y5 => (bif (kindv == 6) then ((yn nw y5.2 l2 p kindv n).bind fun y6 => (y3j nw l2 p n (1, y6))) else ((yn nw y5.2 l2 p kindv 0).bind fun y7 => (y3j nw l2 p n (1, y7))))))))))
def y4z (nw : Nat) (cur : List Int) (l2 : ya) (p n : Int) : Option (Int ⊕ Int) :=
  ((ye nw cur l2 (IntKind.i64.wrap (p + n))).bind fun y0 => (bif (y0 == 7) then some (.inl (IntKind.i64.wrap (n + 1))) else some (.inr n)))
def ya6 (nw : Nat) (cur : List Int) (l2 : ya) (p s : Int) : Option Int :=
  loopO (fun s => y4z nw cur l2 p s) s
def y0l (nw : Nat) (cur : List Int) (l2 : ya) (p : Int) : Option Int :=
  ((ye nw cur l2 p).bind fun y0 => (bif (y0 == 6) then (ya6 nw cur l2 p 1) else some 1))
def y4m (nw : Nat) (l2 : ya) (p n : Int) (t24 t25 : Int) (cur2 : List Int) : Option ((Int × (List Int)) ⊕ (Int × (List Int))) :=
  (bif (decide (t25 < t24)) then ((yn nw cur2 l2 (IntKind.i64.wrap (p + t25)) 0 0).bind fun y0 => some (.inl ((IntKind.i64.wrap (t25 + 1)), y0))) else some (.inr (n, cur2)))
def y74 (nw : Nat) (l2 : ya) (p n t24 : Int) (s : Int × (List Int)) : Option (Int × (List Int)) :=
  loopO (fun s => y4m nw l2 p n t24 s.1 s.2) s
def y2c (nw : Nat) (cur : List Int) (l2 : ya) (p : Int) : Option (Int × (List Int)) :=
  ((ye nw cur l2 p).bind fun y0 => (bif (decide (y0 ≤ 0)) then some (0, cur) else (bif (decide (y0 ≥ 7)) then some (0, cur) else ((y0l nw cur l2 p).bind fun y1 => (y74 nw l2 p y1 y1 (0, cur))))))
attribute [local irreducible] Loop ex exF contK roundK retK at_ bodyOf mkEnv
theorem ye7 : SpecOK Tryz.prog elTT 101 (y6z y0y) := by
  refine spec_of_exF (cfg := (ybe yh)) (yg rfl rfl rfl) (yd y3m yk) (fn := Tryz.f101) (by kernel_rfl) (by kernel_rfl) (by kernel_rfl) ?_
  intro args H K h
  change y7z y0y args H K at h
  unfold y7z at h
  repeat first | (obtain ⟨_, h⟩ := h) | replace h := Des.el h
  subst_vars
  refine Eq.mpr (yg5 yh _ _ K) ?_
  unfold y0y at h
  revert h
  exact br_So (bind_So fun y0 => fun h => h) (fun h => h)
theorem y3r : SpecOK Tryz.prog elTT 62 (y3l ye) := by
  refine spec_of_exF (cfg := (yc8 y0y y02)) (yg rfl rfl rfl) (yd ye7 (yd y8q (yd rd_ok yk))) (fn := Tryz.f62) (by kernel_rfl) (by kernel_rfl) (by kernel_rfl) ?_
  intro args H K h
  change y89 ye args H K at h
  unfold y89 at h
  repeat first | (obtain ⟨_, h⟩ := h) | replace h := Des.el h
  subst_vars
  refine Eq.mpr (yja y0y y02 _ _ _ _ _ K) ?_
  unfold ye at h
  revert h
  exact bind_So fun y0 => br_So (fun h => h) (bind_So fun y1 => andV (by assumption) (req_So (fun h => h)))
theorem y92 : SpecOK Tryz.prog elTT 152 (y5q yi) := by
  refine spec_of_exF (cfg := (yad y0y yh)) (yg rfl rfl rfl) (yd ye7 (yd y3m yk)) (fn := Tryz.f152) (by kernel_rfl) (by kernel_rfl) (by kernel_rfl) ?_
  intro args H K h
  change y6m yi args H K at h
  unfold y6m at h
  repeat first | (obtain ⟨_, h⟩ := h) | replace h := Des.el h
  subst_vars
  refine Eq.mpr (ygb y0y yh _ _ _ K) ?_
  unfold yi at h
  revert h
  exact bind_So fun y0 => br_So (br_So (bind_So fun y1 => fun h => h) (fun h => h)) (fun h => h)
theorem lpok_extent_open_L1 (ws cur : List Int) (xs : List Value) (l2 : ya) (p n t16 : Int) (K : V → Heap → Prop) (hx : xs.length ≤ 2) : So (yej ws.length cur l2 p n t16) (fun (x : Bool) => K (vb x) (hV ws cur xs)) → Loop (y32 yi ye) (⟨27, 2⟩ : Cx) (at_ (bodyOf Tryz.f126) [1, 1, 0, 1, 0, 0]) (mkEnv [(0, .ptr 0 0), (2, vi p), (5, .ptr 2 0), (15, vi n), (16, vi t16)]) [.pk 0 [ws, cur] xs [.row 1], .row 0 ws true, .cells 28 (yc l2)] (contK (y32 yi ye) (⟨27, 2⟩ : Cx) (bodyOf Tryz.f126) [1, 1, 0, 1, 0] (retK (y32 yi ye) Tryz.f126 2 K)) := by
  refine loopK_So (fun (s_ : Int) => (mkEnv [(0, .ptr 0 0), (2, vi p), (5, .ptr 2 0), (15, vi n), (16, vi s_)])) (fun (s_ : Int) => [.pk 0 [ws, cur] xs [.row 1], .row 0 ws true, .cells 28 (yc l2)]) (fun (x : Bool) => K (vb x) (hV ws cur xs)) ?_ t16
  intro s_ J1 h
  clear t16
  revert h; revert s_; intro t16 h
  refine Eq.mpr (ygt yi ye ws cur xs l2 p n t16 K J1) ?_
  have h : So (y4d ws.length cur l2 p n t16) _ := h
  unfold y4d at h
  revert h
  exact br_So (andV hx (bind_So fun y0 => br_So (fun h => h) (fun h => h))) (fun h => h)
theorem yau : SpecOK Tryz.prog elTT 126 (y9k yy) := by
  refine spec_of_exF (cfg := (y32 yi ye)) (yg rfl rfl rfl) (yd y92 (yd y3r yk)) (fn := Tryz.f126) (by kernel_rfl) (by kernel_rfl) (by kernel_rfl) ?_
  intro args H K h
  change y82 yy args H K at h
  unfold y82 at h
  repeat first | (obtain ⟨_, h⟩ := h) | replace h := Des.el h
  subst_vars
  refine Eq.mpr (yi9 yi ye _ _ _ _ _ _ K) ?_
  unfold yy at h
  revert h
  exact bind_So fun y0 => br_So (fun h => h) (lpok_extent_open_L1 _ _ _ _ _ _ _ K (by assumption))
theorem ybg : SpecOK Tryz.prog elTT 133 (y7u yn) := by
  refine spec_of_exF (cfg := (ycm y02 yr ym)) (yg rfl rfl rfl) (yd y8q (yd wr_ok (yd y4i (yd y50 yk)))) (fn := Tryz.f133) (by kernel_rfl) (by kernel_rfl) (by kernel_rfl) ?_
  intro args H K h
  change y5t yn args H K at h
  unfold y5t at h
  repeat first | (obtain ⟨_, h⟩ := h) | replace h := Des.el h
  subst_vars
  refine Eq.mpr (yho y02 yr ym _ _ _ _ _ _ _ K) ?_
  unfold yn at h
  revert h
  exact bind_So fun y0 => andV (by assumption) (req_So (bind_So fun y1 => andV (by assumption) (req_So (bind_So fun y2 => andV (by assumption) (req_So (fun h => h))))))
theorem yei : SpecOK Tryz.prog elTT 127 (y6j yz) := by
  refine spec_of_exF (cfg := (ybn y0s y2a)) (yg rfl rfl rfl) (yd ya2 (yd yf2 yk)) (fn := Tryz.f127) (by kernel_rfl) (by kernel_rfl) (by kernel_rfl) ?_
  intro args H K h
  change y9r yz args H K at h
  unfold y9r at h
  repeat first | (obtain ⟨_, h⟩ := h) | replace h := Des.el h
  subst_vars
  refine Eq.mpr (yj8 y0s y2a _ _ _ _ _ _ _ K) ?_
  unfold yz at h
  revert h
  exact bind_So fun y0 => andV (by assumption) (bind_So fun y1 => fun h => h)
theorem ybz : SpecOK Tryz.prog elTT 131 (y9o y00) := by
  refine spec_of_exF (cfg := ya1) (yg rfl rfl rfl) yk (fn := Tryz.f131) (by kernel_rfl) (by kernel_rfl) (by kernel_rfl) ?_
  intro args H K h
  change y8i y00 args H K at h
  unfold y8i at h
  repeat first | (obtain ⟨_, h⟩ := h) | replace h := Des.el h
  subst_vars
  refine Eq.mpr (yh9 _ K) ?_
  unfold y00 at h
  revert h
  exact fun h => h
theorem lpok_extent_fit_1_L2 (ws cur : List Int) (xs : List Value) (l2 : ya) (n step : Int) (l3 : ya) (U U2 : TypeId) (p iv : Int) (K : V → Heap → Prop) (J1 : Env → Heap → Prop) (hx : xs.length ≤ 2) : So (yb5 ws.length cur l2 step l3 p iv) (sumK (fun (s_ : Int) => J1 (mkEnv [(0, .ptr 0 0), (2, vi n), (3, vi step), (4, .fn 127 [.ptr 1 0, .ptr 2 0]), (6, .ptr 4 0), (11, vi s_)]) [.pk 0 [ws, cur] xs [.row 3], .cells U [.ptr 0 0], .cells U2 (yc l3), .row 0 ws true, .cells 28 (yc l2)]) (fun (x : Int) => K (vi x) [.pk 0 [ws, cur] xs [.row 3], .cells U [.ptr 0 0], .cells U2 (yc l3), .row 0 ws true])) → Loop (y0g yi ye yz) (⟨48, 4⟩ : Cx) (at_ (bodyOf Tryz.f130) [1, 0, 1, 1, 0, 0, 0, 1, 0, 0, 1, 0, 0]) (mkEnv [(0, .ptr 0 0), (2, vi n), (3, vi step), (4, .fn 127 [.ptr 1 0, .ptr 2 0]), (6, .ptr 4 0), (11, vi p), (12, vi iv)]) [.pk 0 [ws, cur] xs [.row 3], .cells U [.ptr 0 0], .cells U2 (yc l3), .row 0 ws true, .cells 28 (yc l2)] (contK (y0g yi ye yz) (⟨48, 4⟩ : Cx) (at_ (bodyOf Tryz.f130) [1, 0, 1, 1, 0, 0, 0]) [1, 0, 0, 1, 0] (roundK (y0g yi ye yz) (⟨48, 4⟩ : Cx) (at_ (bodyOf Tryz.f130) [1, 0, 1, 1, 0, 0, 0]) (contK (y0g yi ye yz) (⟨48, 4⟩ : Cx) (bodyOf Tryz.f130) [1, 0, 1, 1, 0, 0] (retK (y0g yi ye yz) Tryz.f130 4 K)) J1)) := by
  refine loopK_So (fun (s_ : Int) => (mkEnv [(0, .ptr 0 0), (2, vi n), (3, vi step), (4, .fn 127 [.ptr 1 0, .ptr 2 0]), (6, .ptr 4 0), (11, vi p), (12, vi s_)])) (fun (s_ : Int) => [.pk 0 [ws, cur] xs [.row 3], .cells U [.ptr 0 0], .cells U2 (yc l3), .row 0 ws true, .cells 28 (yc l2)]) (sumK (fun (s_ : Int) => J1 (mkEnv [(0, .ptr 0 0), (2, vi n), (3, vi step), (4, .fn 127 [.ptr 1 0, .ptr 2 0]), (6, .ptr 4 0), (11, vi s_)]) [.pk 0 [ws, cur] xs [.row 3], .cells U [.ptr 0 0], .cells U2 (yc l3), .row 0 ws true, .cells 28 (yc l2)]) (fun (x : Int) => K (vi x) [.pk 0 [ws, cur] xs [.row 3], .cells U [.ptr 0 0], .cells U2 (yc l3), .row 0 ws true])) ?_ iv
  intro s_ J2 h
  clear iv
  revert h; revert s_; intro iv h
  refine Eq.mpr (yfo yi ye yz ws cur xs l2 n step l3 U U2 p iv K J1 J2) ?_
  have h : So (y3u ws.length cur l2 step l3 p iv) _ := h
  unfold y3u at h
  revert h
  exact br_So (andV hx (bind_So fun y0 => br_So (req_So (fun h => h)) (andV hx (bind_So fun y1 => br_So (req_So (fun h => h)) (fun h => h))))) (fun h => h)
theorem lpok_extent_fit_1_L1 (ws cur : List Int) (xs : List Value) (l2 : ya) (n step : Int) (l3 : ya) (U U2 : TypeId) (p : Int) (K : V → Heap → Prop) (hx : xs.length ≤ 2) : So (yaf ws.length cur l2 n step l3 p) (fun (x : Int) => K (vi x) [.pk 0 [ws, cur] xs [.row 3], .cells U [.ptr 0 0], .cells U2 (yc l3), .row 0 ws true]) → Loop (y0g yi ye yz) (⟨48, 4⟩ : Cx) (at_ (bodyOf Tryz.f130) [1, 0, 1, 1, 0, 0, 0]) (mkEnv [(0, .ptr 0 0), (2, vi n), (3, vi step), (4, .fn 127 [.ptr 1 0, .ptr 2 0]), (6, .ptr 4 0), (11, vi p)]) [.pk 0 [ws, cur] xs [.row 3], .cells U [.ptr 0 0], .cells U2 (yc l3), .row 0 ws true, .cells 28 (yc l2)] (contK (y0g yi ye yz) (⟨48, 4⟩ : Cx) (bodyOf Tryz.f130) [1, 0, 1, 1, 0, 0] (retK (y0g yi ye yz) Tryz.f130 4 K)) := by
  refine loopK_So (fun (s_ : Int) => (mkEnv [(0, .ptr 0 0), (2, vi n), (3, vi step), (4, .fn 127 [.ptr 1 0, .ptr 2 0]), (6, .ptr 4 0), (11, vi s_)])) (fun (s_ : Int) => [.pk 0 [ws, cur] xs [.row 3], .cells U [.ptr 0 0], .cells U2 (yc l3), .row 0 ws true, .cells 28 (yc l2)]) (fun (x : Int) => K (vi x) [.pk 0 [ws, cur] xs [.row 3], .cells U [.ptr 0 0], .cells U2 (yc l3), .row 0 ws true]) ?_ p
  intro s_ J1 h
  clear p
  revert h; revert s_; intro p h
  refine Eq.mpr (yex yi ye yz ws cur xs l2 n step l3 U U2 p K J1) ?_
  have h : So (y41 ws.length cur l2 n step l3 p) _ := h
  unfold y41 at h
  revert h
  exact bind_So fun y0 => br_So (lpok_extent_fit_1_L2 ws cur xs l2 n step l3 U U2 p (IntKind.i64.wrap (n - 1)) K J1 hx) (fun h => h)
theorem yiw : SpecOK Tryz.prog elTT 130 (ydl y2q) := by
  refine spec_of_exF (cfg := (y0g yi ye yz)) (yg rfl rfl rfl) (yd y92 (yd y3r (yd yei yk))) (fn := Tryz.f130) (by kernel_rfl) (by kernel_rfl) (by kernel_rfl) ?_
  intro args H K h
  change y75 y2q args H K at h
  unfold y75 at h
  repeat first | (obtain ⟨_, h⟩ := h) | replace h := Des.el h
  subst_vars
  refine Eq.mpr (yfn yi ye yz _ _ _ _ _ _ _ _ _ K) ?_
  unfold y2q at h
  revert h
  exact lpok_extent_fit_1_L1 _ _ _ _ _ _ _ _ _ _ K (by assumption)
theorem lpok_extent_fit_2_L2 (ws cur : List Int) (xs : List Value) (l2 : ya) (n step : Int) (p iv : Int) (K : V → Heap → Prop) (J1 : Env → Heap → Prop) (hx : xs.length ≤ 2) : So (yeh ws.length cur l2 step p iv) (sumK (fun (s_ : Int) => J1 (mkEnv [(0, .ptr 0 0), (2, vi n), (3, vi step), (4, .fn 131 []), (6, .ptr 2 0), (11, vi s_)]) [.pk 0 [ws, cur] xs [.row 1], .row 0 ws true, .cells 28 (yc l2)]) (fun (x : Int) => K (vi x) (hV ws cur xs))) → Loop (y0h yi ye y00) (⟨48, 2⟩ : Cx) (at_ (bodyOf Tryz.f130) [1, 0, 1, 1, 0, 0, 0, 1, 0, 0, 1, 0, 0]) (mkEnv [(0, .ptr 0 0), (2, vi n), (3, vi step), (4, .fn 131 []), (6, .ptr 2 0), (11, vi p), (12, vi iv)]) [.pk 0 [ws, cur] xs [.row 1], .row 0 ws true, .cells 28 (yc l2)] (contK (y0h yi ye y00) (⟨48, 2⟩ : Cx) (at_ (bodyOf Tryz.f130) [1, 0, 1, 1, 0, 0, 0]) [1, 0, 0, 1, 0] (roundK (y0h yi ye y00) (⟨48, 2⟩ : Cx) (at_ (bodyOf Tryz.f130) [1, 0, 1, 1, 0, 0, 0]) (contK (y0h yi ye y00) (⟨48, 2⟩ : Cx) (bodyOf Tryz.f130) [1, 0, 1, 1, 0, 0] (retK (y0h yi ye y00) Tryz.f130 2 K)) J1)) := by
  refine loopK_So (fun (s_ : Int) => (mkEnv [(0, .ptr 0 0), (2, vi n), (3, vi step), (4, .fn 131 []), (6, .ptr 2 0), (11, vi p), (12, vi s_)])) (fun (s_ : Int) => [.pk 0 [ws, cur] xs [.row 1], .row 0 ws true, .cells 28 (yc l2)]) (sumK (fun (s_ : Int) => J1 (mkEnv [(0, .ptr 0 0), (2, vi n), (3, vi step), (4, .fn 131 []), (6, .ptr 2 0), (11, vi s_)]) [.pk 0 [ws, cur] xs [.row 1], .row 0 ws true, .cells 28 (yc l2)]) (fun (x : Int) => K (vi x) (hV ws cur xs))) ?_ iv
  intro s_ J2 h
  clear iv
  revert h; revert s_; intro iv h
  refine Eq.mpr (yfq yi ye y00 ws cur xs l2 n step p iv K J1 J2) ?_
  have h : So (y3v ws.length cur l2 step p iv) _ := h
  unfold y3v at h
  revert h
  exact br_So (andV hx (bind_So fun y0 => br_So (req_So (fun h => h)) (bind_So fun y1 => br_So (req_So (fun h => h)) (fun h => h)))) (fun h => h)
theorem lpok_extent_fit_2_L1 (ws cur : List Int) (xs : List Value) (l2 : ya) (n step p : Int) (K : V → Heap → Prop) (hx : xs.length ≤ 2) : So (ye5 ws.length cur l2 n step p) (fun (x : Int) => K (vi x) (hV ws cur xs)) → Loop (y0h yi ye y00) (⟨48, 2⟩ : Cx) (at_ (bodyOf Tryz.f130) [1, 0, 1, 1, 0, 0, 0]) (mkEnv [(0, .ptr 0 0), (2, vi n), (3, vi step), (4, .fn 131 []), (6, .ptr 2 0), (11, vi p)]) [.pk 0 [ws, cur] xs [.row 1], .row 0 ws true, .cells 28 (yc l2)] (contK (y0h yi ye y00) (⟨48, 2⟩ : Cx) (bodyOf Tryz.f130) [1, 0, 1, 1, 0, 0] (retK (y0h yi ye y00) Tryz.f130 2 K)) := by
  refine loopK_So (fun (s_ : Int) => (mkEnv [(0, .ptr 0 0), (2, vi n), (3, vi step), (4, .fn 131 []), (6, .ptr 2 0), (11, vi s_)])) (fun (s_ : Int) => [.pk 0 [ws, cur] xs [.row 1], .row 0 ws true, .cells 28 (yc l2)]) (fun (x : Int) => K (vi x) (hV ws cur xs)) ?_ p
  intro s_ J1 h
  clear p
  revert h; revert s_; intro p h
  refine Eq.mpr (yhe yi ye y00 ws cur xs l2 n step p K J1) ?_
  have h : So (y43 ws.length cur l2 n step p) _ := h
  unfold y43 at h
  revert h
  exact bind_So fun y0 => br_So (lpok_extent_fit_2_L2 ws cur xs l2 n step p (IntKind.i64.wrap (n - 1)) K J1 hx) (fun h => h)
theorem yiy : SpecOK Tryz.prog elTT 130 (yde y36) := by
  refine spec_of_exF (cfg := (y0h yi ye y00)) (yg rfl rfl rfl) (yd y92 (yd y3r (yd ybz yk))) (fn := Tryz.f130) (by kernel_rfl) (by kernel_rfl) (by kernel_rfl) ?_
  intro args H K h
  change y9v y36 args H K at h
  unfold y9v at h
  repeat first | (obtain ⟨_, h⟩ := h) | replace h := Des.el h
  subst_vars
  refine Eq.mpr (yht yi ye y00 _ _ _ _ _ _ K) ?_
  unfold y36 at h
  revert h
  exact lpok_extent_fit_2_L1 _ _ _ _ _ _ _ K (by assumption)
theorem yjd : SpecOK Tryz.prog elTT 94 (ybo y2m) := by
  refine spec_of_exF (cfg := (yb9 yy yz y2q y36 y00)) (yg rfl rfl rfl) (yd yau (yd yei (yd (altP_ok yiy yiw) (yd ybz yk)))) (fn := Tryz.f94) (by kernel_rfl) (by kernel_rfl) (by kernel_rfl) ?_
  intro args H K h
  change y73 y2m args H K at h
  unfold y73 at h
  repeat first | (obtain ⟨_, h⟩ := h) | replace h := Des.el h
  subst_vars
  refine Eq.mpr (ygv yy yz y2q y36 y00 _ _ _ _ _ _ K) ?_
  unfold y2m at h
  revert h
  exact br_So (br_So (br_So (andV (by assumption) (bind_So fun y0 => br_So (fun h => h) (fun h => h))) (fun h => h)) (fun h => h)) (br_So (br_So (br_So (andV (by assumption) (bind_So fun y1 => br_So (fun h => h) (fun h => h))) (fun h => h)) (fun h => h)) (br_So (br_So (br_So (andV (by assumption) (bind_So fun y2 => br_So (fun h => h) (fun h => h))) (fun h => h)) (fun h => h)) (andV (by assumption) (bind_So fun y3 => br_So (fun h => h) (andV (by assumption) (bind_So fun y4 => fun h => h))))))
theorem lpok_extent_Take_L1 (ws cur : List Int) (xs : List Value) (l2 : ya) (p n : Int) (kindv iv : Int) (cur2 : List Int) (K : V → Heap → Prop) (hx : xs.length ≤ 2) : So (y3j ws.length l2 p n (iv, cur2)) (fun (x : Bool × (List Int)) => K (vb x.1) (hV ws x.2 xs)) → Loop (y1d yy y04 yn) (⟨60, 2⟩ : Cx) (at_ (bodyOf Tryz.f95) [1, 1, 1, 1, 1, 1, 0, 1, 0, 0]) (mkEnv [(0, .ptr 0 0), (2, vi p), (3, vi n), (6, .ptr 2 0), (12, vi iv)]) [.pk 0 [ws, cur2] xs [.row 1], .row 0 ws true, .cells 28 (yc l2)] (contK (y1d yy y04 yn) (⟨60, 2⟩ : Cx) (bodyOf Tryz.f95) [1, 1, 1, 1, 1, 1, 0, 1, 0] (retK (y1d yy y04 yn) Tryz.f95 2 K)) := by
  refine loopK_So (fun (s_ : Int × (List Int)) => (mkEnv [(0, .ptr 0 0), (2, vi p), (3, vi n), (6, .ptr 2 0), (12, vi s_.1)])) (fun (s_ : Int × (List Int)) => [.pk 0 [ws, s_.2] xs [.row 1], .row 0 ws true, .cells 28 (yc l2)]) (fun (x : Bool × (List Int)) => K (vb x.1) (hV ws x.2 xs)) ?_ (iv, cur2)
  intro s_ J1 h
  clear iv
  clear cur2
  obtain ⟨iv, cur2⟩ := s_
  refine Eq.mpr (yfp yy y04 yn ws cur xs l2 p n kindv iv cur2 K J1) ?_
  have h : So (y4q ws.length l2 p n iv cur2) _ := h
  unfold y4q at h
  revert h
  exact br_So (andV hx (bind_So fun y0 => fun h => h)) (fun h => h)
theorem yir : SpecOK Tryz.prog elTT 95 (yct y1p) := by
  refine spec_of_exF (cfg := (y1d yy y04 yn)) (yg rfl rfl rfl) (yd yau (yd yiq (yd ybg yk))) (fn := Tryz.f95) (by kernel_rfl) (by kernel_rfl) (by kernel_rfl) ?_
  intro args H K h
  change y6b y1p args H K at h
  unfold y6b at h
  repeat first | (obtain ⟨_, h⟩ := h) | replace h := Des.el h
  subst_vars
  refine Eq.mpr (yj6 yy y04 yn _ _ _ _ _ _ _ K) ?_
  unfold y1p at h
  revert h
  exact br_So (fun h => h) (br_So (fun h => h) (br_So (br_So (fun h => h) (andV (by assumption) (bind_So fun y0 => br_So (fun h => h) (andV (by assumption) (bind_So fun y1 => br_So (andV (by assumption) (bind_So fun y2 => lpok_extent_Take_L1 _ (by first | assumption | exact default) _ _ _ _ (by first | assumption | exact default) _ _ K (by assumption))) (andV (by assumption) (bind_So fun y3 => lpok_extent_Take_L1 _ (by first | assumption | exact default) _ _ _ _ (by first | assumption | exact default) _ _ K (by assumption)))))))) (andV (by assumption) (bind_So fun y4 => br_So (fun h => h) (andV (by assumption) (bind_So fun y5 => br_So (andV (by assumption) (bind_So fun y6 => lpok_extent_Take_L1 _ (by first | assumption | exact default) _ _ _ _ (by first | assumption | exact default) _ _ K (by assumption))) (andV (by assumption) (bind_So fun y7 => lpok_extent_Take_L1 _ (by first | assumption | exact default) _ _ _ _ (by first | assumption | exact default) _ _ K (by assumption)))))))))
theorem lpok_extent_length_L1 (ws cur : List Int) (xs : List Value) (l2 : ya) (p n : Int) (K : V → Heap → Prop) (hx : xs.length ≤ 2) : So (ya6 ws.length cur l2 p n) (fun (x : Int) => K (vi x) (hV ws cur xs)) → Loop (y2z ye) (⟨23, 2⟩ : Cx) (at_ (bodyOf Tryz.f140) [1, 1, 0, 1, 0, 0, 0]) (mkEnv [(0, .ptr 0 0), (2, vi p), (4, .ptr 2 0), (7, vi n)]) [.pk 0 [ws, cur] xs [.row 1], .row 0 ws true, .cells 28 (yc l2)] (contK (y2z ye) (⟨23, 2⟩ : Cx) (bodyOf Tryz.f140) [1, 1, 0, 1, 0, 0] (retK (y2z ye) Tryz.f140 2 K)) := by
  refine loopK_So (fun (s_ : Int) => (mkEnv [(0, .ptr 0 0), (2, vi p), (4, .ptr 2 0), (7, vi s_)])) (fun (s_ : Int) => [.pk 0 [ws, cur] xs [.row 1], .row 0 ws true, .cells 28 (yc l2)]) (fun (x : Int) => K (vi x) (hV ws cur xs)) ?_ n
  intro s_ J1 h
  clear n
  revert h; revert s_; intro n h
  refine Eq.mpr (ygq ye ws cur xs l2 p n K J1) ?_
  have h : So (y4z ws.length cur l2 p n) _ := h
  unfold y4z at h
  revert h
  exact andV hx (bind_So fun y0 => br_So (fun h => h) (fun h => h))
theorem yg8 : SpecOK Tryz.prog elTT 140 (ybx y0l) := by
  refine spec_of_exF (cfg := (y2z ye)) (yg rfl rfl rfl) (yd y3r yk) (fn := Tryz.f140) (by kernel_rfl) (by kernel_rfl) (by kernel_rfl) ?_
  intro args H K h
  change y9h y0l args H K at h
  unfold y9h at h
  repeat first | (obtain ⟨_, h⟩ := h) | replace h := Des.el h
  subst_vars
  refine Eq.mpr (yie ye _ _ _ _ _ K) ?_
  unfold y0l at h
  revert h
  exact andV (by assumption) (bind_So fun y0 => br_So (lpok_extent_length_L1 _ _ _ _ _ _ K (by assumption)) (fun h => h))
theorem lpok_extent_Drop_L1 (ws cur : List Int) (xs : List Value) (l2 : ya) (p n : Int) (t24 t25 : Int) (cur2 : List Int) (K : V → Heap → Prop) (hx : xs.length ≤ 2) : So (y74 ws.length l2 p n t24 (t25, cur2)) (fun (x : Int × (List Int)) => K (vi x.1) (hV ws x.2 xs)) → Loop (y2y ye y0l yn) (⟨36, 2⟩ : Cx) (at_ (bodyOf Tryz.f98) [1, 1, 1, 0, 1, 0, 0]) (mkEnv [(0, .ptr 0 0), (2, vi p), (4, .ptr 2 0), (8, vi n), (24, vi t24), (25, vi t25)]) [.pk 0 [ws, cur2] xs [.row 1], .row 0 ws true, .cells 28 (yc l2)] (contK (y2y ye y0l yn) (⟨36, 2⟩ : Cx) (bodyOf Tryz.f98) [1, 1, 1, 0, 1, 0] (retK (y2y ye y0l yn) Tryz.f98 2 K)) := by
  refine loopK_So (fun (s_ : Int × (List Int)) => (mkEnv [(0, .ptr 0 0), (2, vi p), (4, .ptr 2 0), (8, vi n), (24, vi t24), (25, vi s_.1)])) (fun (s_ : Int × (List Int)) => [.pk 0 [ws, s_.2] xs [.row 1], .row 0 ws true, .cells 28 (yc l2)]) (fun (x : Int × (List Int)) => K (vi x.1) (hV ws x.2 xs)) ?_ (t25, cur2)
  intro s_ J1 h
  clear t25
  clear cur2
  obtain ⟨t25, cur2⟩ := s_
  refine Eq.mpr (yh4 ye y0l yn ws cur xs l2 p n t24 t25 cur2 K J1) ?_
  have h : So (y4m ws.length l2 p n t24 t25 cur2) _ := h
  unfold y4m at h
  revert h
  exact br_So (andV hx (bind_So fun y0 => fun h => h)) (fun h => h)
theorem yet : SpecOK Tryz.prog elTT 98 (yac y2c) := by
  refine spec_of_exF (cfg := (y2y ye y0l yn)) (yg rfl rfl rfl) (yd y3r (yd yg8 (yd ybg yk))) (fn := Tryz.f98) (by kernel_rfl) (by kernel_rfl) (by kernel_rfl) ?_
  intro args H K h
  change y9u y2c args H K at h
  unfold y9u at h
  repeat first | (obtain ⟨_, h⟩ := h) | replace h := Des.el h
  subst_vars
  refine Eq.mpr (yf4 ye y0l yn _ _ _ _ _ K) ?_
  unfold y2c at h
  revert h
  exact andV (by assumption) (bind_So fun y0 => br_So (fun h => h) (br_So (fun h => h) (andV (by assumption) (bind_So fun y1 => lpok_extent_Drop_L1 _ (by first | assumption | exact default) _ _ _ _ _ _ _ K (by assumption)))))
end Go.Rx
end

section
namespace Go.Rx
open Go.Proofs
instance (kb pg : Int) (w : List Int) (p n : Int) : Decidable (FreeR kb pg w p n) :=
  decidable_of_iff ((1 ≤ n ∧ 0 ≤ p ∧ p < pg ∧ n ≤ pg - p) ∧ ∀ i : Nat, i < n.toNat → wd w (kb + (p + i)) = 0)
    ⟨fun h => ⟨h.1, fun i h0 h1 => by
      have := h.2 i.toNat (by omega)
      rw [show ((i.toNat : Nat) : Int) = i by omega] at this; exact this⟩, fun h => ⟨h.span, fun i hi => h.free i (by omega) (by omega)⟩⟩
theorem fit_gen {pg step n : Int} {ok : Int → Prop} (outer : Int → Option (Int ⊕ Int)) (inner : Int → Int → Option (Int ⊕ (Int ⊕ Int)))
    (hn : 1 ≤ n) (hs : 1 ≤ step ∧ step ≤ 256) (hpg : 1 ≤ pg ∧ pg ≤ 256)
    (ho1 : ∀ p, (1 ≤ n ∧ 0 ≤ p ∧ p < pg ∧ n ≤ pg - p) → outer p = loopO (inner p) (n - 1))
    (ho2 : ∀ p, 0 ≤ p → p ≤ 1000 → ¬ (1 ≤ n ∧ 0 ≤ p ∧ p < pg ∧ n ≤ pg - p) → outer p = some (.inr (-1)))
    (hi1 : ∀ p i, (1 ≤ n ∧ 0 ≤ p ∧ p < pg ∧ n ≤ pg - p) → 0 ≤ i → i < n → ok (p + i) → inner p i = some (.inl (i - 1)))
    (hi2 : ∀ p i, (1 ≤ n ∧ 0 ≤ p ∧ p < pg ∧ n ≤ pg - p) → 0 ≤ i → i < n → ¬ ok (p + i) → inner p i = some (.inr (.inl ((p + i) / step * step + step))))
    (hi3 : ∀ p i, i < 0 → inner p i = some (.inr (.inr p))) :
    ∃ r, loopO outer 0 = some r ∧ Least pg (Does pg step n ok) r := by
  refine loopO_ind (step := outer) (I := fun p => 0 ≤ p ∧ p ≤ 1000 ∧ p % step = 0 ∧ ∀ q, 0 ≤ q → q < p → ¬ Does pg step n ok q) (μ := fun p => (pg - p).toNat) (fun r => Least pg (Does pg step n ok) r) (fun p hp => ?_) 0 ⟨by omega, by omega, by simp, fun q h0 h1 => by omega⟩
  obtain ⟨p0, p1, p2, p3⟩ := hp
  by_cases c : 1 ≤ n ∧ 0 ≤ p ∧ p < pg ∧ n ≤ pg - p
  · rw [ho1 p c]
    obtain ⟨r, h1, h2⟩ := loopO_ind (step := inner p) (I := fun i => -1 ≤ i ∧ i < n ∧ ∀ j, i < j → j < n → ok (p + j)) (μ := fun i => (i + 1).toNat)
      (fun r => (r = .inr p ∧ ∀ j, 0 ≤ j → j < n → ok (p + j)) ∨ (∃ i, 0 ≤ i ∧ i < n ∧ ¬ ok (p + i) ∧ r = .inl ((p + i) / step * step + step))) (fun i hi => by
        obtain ⟨i0, i1, i2⟩ := hi
        by_cases d : 0 ≤ i
        · by_cases e : ok (p + i)
          · refine .inl ⟨_, hi1 p i c d i1 e, ⟨by omega, by omega, fun j h0 h1 => ?_⟩, by omega⟩
            by_cases f : j = i
            · rw [f]; exact e
            · exact i2 j (by omega) h1
          · exact .inr ⟨_, hi2 p i c d i1 e, .inr ⟨i, d, i1, e, rfl⟩⟩
        · exact .inr ⟨_, hi3 p i (by omega), .inl ⟨rfl, fun j h0 h1 => i2 j (by omega) h1⟩⟩) (n - 1) ⟨by omega, by omega, fun j h0 h1 => by omega⟩
    rw [h1]
    rcases h2 with ⟨rfl, h2⟩ | ⟨i, d, i1, e, rfl⟩
    · refine .inr ⟨_, rfl, fit_hit ⟨p2, c, fun j h0 h1 => ?_⟩ p3⟩
      have := h2 (j - p) (by omega) (by omega)
      rw [show p + (j - p) = j by omega] at this; exact this
    · obtain ⟨a1, a2, a3, a4⟩ := fit_next hs.1 p0 ⟨d, i1⟩ e p3
      exact .inl ⟨_, rfl, ⟨by omega, by omega, a3, a4⟩, by omega⟩
  · exact .inr ⟨_, ho2 p p0 p1 c, fit_end c hn p0 p3⟩
section
variable {L : ya} {nw : Nat} {cur : List Int}
theorem LayOK.geoK (h : LayOK L) : 1 ≤ L.at_1 ∧ L.at_2 = L.at_1 + L.c.Pages ∧ L.at_3 = L.at_1 + 2 * L.c.Pages ∧ L.at_1 + 3 * L.c.Pages ≤ L.at_11 ∧ L.at_1 + 3 * L.c.Pages = L.at_4 ∧ L.at_0 + (L.c.Pages + 3) / 4 = L.at_1 ∧ 1 ≤ L.at_0 := by
  have := h.a0; have := h.a1; have := h.a2; have := h.a3; have := h.a4; have := h.a5; have := h.a6; have := h.a7; have := h.a8b; have := h.a9; have := h.a11; have := h.big; have := h.stripes; have := h.pages; have := h.bin
  omega
theorem VOK.geoK (v : VOK L nw cur) : GeoK L.at_1 L.c.Pages cur.length := by
  have := v.lay.geoK; have := v.all; have := v.len
  exact ⟨by omega, v.lay.pages, by omega⟩
theorem ethere_eq (p : Int) : y0y L p = some (decide (0 ≤ p ∧ p < L.c.Pages)) := by
  unfold y0y
  by_cases a : 0 ≤ p
  · rw [decide_eq_true (show p ≥ 0 from a), cond_true, Config_eq, Option.bind_some]
    have e : (0 ≤ p ∧ p < L.c.Pages) ↔ p < (cOf L).Pages := ⟨fun x => x.2, fun x => ⟨a, x⟩⟩
    simp only [e]
  · rw [decide_eq_false (show ¬ p ≥ 0 from a), decide_eq_false (fun x => a x.1)]; rfl
theorem eKind_eq (v : VOK L nw cur) (p : Int) : ye nw cur L p = some (knd L.at_1 L.c.Pages cur p) := by
  unfold ye
  rw [ethere_eq, Option.bind_some]
  have g := v.lay.geoK; have := v.all; have := v.lay.pages
  by_cases a : 0 ≤ p ∧ p < L.c.Pages
  · rw [decide_eq_true a, knd_in a, Bool.not_true, cond_false, Kind_eq v.lay, Option.bind_some]
    unfold lPg
    rw [if_pos a, inR_int (by omega) (by omega), cond_true]; rfl
  · rw [decide_eq_false a, knd_out a]; rfl
theorem eall_eq (h : LayOK L) (p n : Int) : yi L p n = some (decide (1 ≤ n ∧ 0 ≤ p ∧ p < L.c.Pages ∧ n ≤ L.c.Pages - p)) := by
  unfold yi
  have hpg := h.pages
  rw [ethere_eq, Option.bind_some]
  by_cases a : 0 ≤ p ∧ p < L.c.Pages
  · rw [decide_eq_true a, cond_true]
    by_cases b : 1 ≤ n
    · have e0 : (cOf L).Pages = L.c.Pages := rfl
      rw [decide_eq_true (show n ≥ 1 from b), cond_true, Config_eq, Option.bind_some, e0, wrap_id (x := L.c.Pages - p) (by omega) (by omega)]
      have e : (1 ≤ n ∧ 0 ≤ p ∧ p < L.c.Pages ∧ n ≤ L.c.Pages - p) ↔ n ≤ L.c.Pages - p := ⟨fun x => x.2.2.2, fun x => ⟨b, a.1, a.2, x⟩⟩
      simp only [e]
    · rw [decide_eq_false (show ¬ n ≥ 1 from b), cond_false, decide_eq_false (fun x => b x.1)]
  · rw [decide_eq_false a, cond_false, decide_eq_false (fun x => a ⟨x.2.1, x.2.2.1⟩)]
theorem eopen_eq (v : VOK L nw cur) (p n : Int) : yy nw cur L p n = some (decide (FreeR L.at_1 L.c.Pages cur p n)) := by
  unfold yy
  rw [eall_eq v.lay, Option.bind_some]
  have hpg := v.lay.pages
  by_cases a : 1 ≤ n ∧ 0 ≤ p ∧ p < L.c.Pages ∧ n ≤ L.c.Pages - p
  · rw [decide_eq_true a, Bool.not_true, cond_false]
    obtain ⟨r, h1, rfl⟩ := loopO_ind (step := fun s : Int => y4d nw cur L p n s)
      (I := fun i => 0 ≤ i ∧ i ≤ n ∧ ∀ j, 0 ≤ j → j < i → wd cur (L.at_1 + (p + j)) = 0) (μ := fun i => (n - i).toNat) (fun r => r = decide (FreeR L.at_1 L.c.Pages cur p n)) (by
        rintro i ⟨i0, i1, i2⟩
        simp only [y4d]
        by_cases c : i < n
        · rw [decide_eq_true c, cond_true, wrap_id (x := p + i) (by omega) (by omega), eKind_eq v, Option.bind_some, knd_in (by omega)]
          by_cases z : wd cur (L.at_1 + (p + i)) = 0
          · have e : (wd cur (L.at_1 + (p + i)) != 0) = false := by rw [z]; rfl
            rw [e, cond_false, wrap_id (by omega) (by omega)]
            refine .inl ⟨_, rfl, ⟨by omega, by omega, fun j h0 h1 => ?_⟩, by omega⟩
            by_cases d : j = i
            · rw [d]; exact z
            · exact i2 j h0 (by omega)
          · have e : (wd cur (L.at_1 + (p + i)) != 0) = true := by simpa using z
            rw [e, cond_true]
            exact .inr ⟨_, rfl, (decide_eq_false (fun f => z (f.free i i0 c))).symm⟩
        · rw [decide_eq_false c, cond_false]
          exact .inr ⟨_, rfl, (decide_eq_true ⟨a, fun j h0 h1 => i2 j h0 (by omega)⟩).symm⟩) 0 ⟨by omega, by omega, fun j h0 h1 => by omega⟩
    exact h1
  · rw [decide_eq_false a, Bool.not_false, cond_true, decide_eq_false (fun f => a f.span)]
theorem eset_eq (v : VOK L nw cur) {p : Int} (hp : 0 ≤ p ∧ p < L.c.Pages) (k n : Int) : yn nw cur L p k n = some (setP L.at_1 L.c.Pages cur p k n) := by
  unfold yn
  have g := v.lay.geoK; have := v.all
  rw [Kind_eq v.lay, Option.bind_some, Count_eq v.lay, Option.bind_some, Bits_eq v.lay, Option.bind_some]
  unfold lPg
  rw [if_pos hp, if_pos hp, if_pos hp, inR_int (by omega) (by omega), cond_true, inR_int (by omega) (by omega), cond_true, inR_int (by omega) (by omega), cond_true]
  unfold setP wr
  rw [g.2.1, g.2.2.1]
theorem VOK.setP (v : VOK L nw cur) (p k n : Int) : VOK L nw (Go.Rx.setP L.at_1 L.c.Pages cur p k n) := ⟨v.lay, by rw [setP_len]; exact v.len, v.all⟩
def mpd (L : ya) (cur : List Int) (j : Int) : Prop := isB cur L.c.Pages L.at_0 (j / 4) 1 = true
theorem fit1_eq (v : VOK L nw cur) {n step : Int} (hn : 1 ≤ n) (hs : 1 ≤ step ∧ step ≤ 256) : ∃ r, y2q nw cur L n step L = some r ∧
    Least L.c.Pages (Does L.c.Pages step n (fun j => knd L.at_1 L.c.Pages cur j = 0 ∧ mpd L cur j)) r := by
  have hpg := v.lay.pages
  have hst : (!step == 0) = true := by simp; omega
  have hnext : ∀ p i, (1 ≤ n ∧ 0 ≤ p ∧ p < L.c.Pages ∧ n ≤ L.c.Pages - p) → 0 ≤ i → i < n → IntKind.i64.wrap (IntKind.i64.wrap (IntKind.i64.wrap (Int.tdiv (IntKind.i64.wrap (p + i)) step) * step) + step) = (p + i) / step * step + step := fun p i c h0 h1 => by
    have a1 : (p + i) / step * step ≤ p + i := Int.ediv_mul_le _ (by omega)
    have a2 : 0 ≤ (p + i) / step := Int.ediv_nonneg (by omega) (by omega)
    have a3 : (p + i) / step ≤ p + i := Int.ediv_le_self _ (by omega)
    have a4 : 0 ≤ (p + i) / step * step := Int.mul_nonneg a2 (by omega)
    rw [wrap_id (x := p + i) (by omega) (by omega), Int.tdiv_eq_ediv_of_nonneg (by omega), wrap_id (x := (p + i) / step) (by omega) (by omega), wrap_id (x := (p + i) / step * step) (by omega) (by omega), wrap_id (by omega) (by omega)]
  refine fit_gen (fun p => y41 nw cur L n step L p) (fun p i => y3u nw cur L step L p i) hn hs hpg (fun p c => ?_) (fun p p0 p1 c => ?_) (fun p i c h0 h1 hk => ?_) (fun p i c h0 h1 hk => ?_) (fun p i h0 => ?_)
  · simp only [y41, eall_eq v.lay, Option.bind_some, decide_eq_true c, cond_true]
    rw [wrap_id (by omega) (by omega)]; rfl
  · simp only [y41, eall_eq v.lay, Option.bind_some, decide_eq_false c, cond_false]
  · simp only [y3u]
    have hm := hk.2
    unfold mpd at hm
    rw [decide_eq_true (show i ≥ 0 from h0), cond_true, wrap_id (x := p + i) (by omega) (by omega), eKind_eq v, Option.bind_some, hk.1]
    unfold yz
    rw [cOf_eq (by omega), Option.bind_some, Mapped_eq v, Option.bind_some, Option.bind_some]
    unfold chunkI
    rw [decide_eq_false (show ¬ p + i < 0 by omega), cond_false, hm, show ((0 : Int) != 0) = false from rfl, cond_false, Bool.not_true, cond_false, wrap_id (x := i - 1) (by omega) (by omega)]
  · simp only [y3u, hnext p i c h0 h1, hst, cond_true]
    rw [decide_eq_true (show i ≥ 0 from h0), cond_true, wrap_id (x := p + i) (by omega) (by omega), eKind_eq v, Option.bind_some]
    by_cases z : knd L.at_1 L.c.Pages cur (p + i) = 0
    · have e : (knd L.at_1 L.c.Pages cur (p + i) != 0) = false := by rw [z]; rfl
      rw [e, cond_false]
      unfold yz
      rw [cOf_eq (by omega), Option.bind_some, Mapped_eq v, Option.bind_some, Option.bind_some]
      unfold chunkI
      rw [decide_eq_false (show ¬ p + i < 0 by omega), cond_false]
      have hm : isB cur L.c.Pages L.at_0 ((p + i) / 4) 1 = false := by
        cases hb : isB cur L.c.Pages L.at_0 ((p + i) / 4) 1 with
        | false => rfl
        | true => exact (hk ⟨z, hb⟩).elim
      rw [hm]; rfl
    · have e : (knd L.at_1 L.c.Pages cur (p + i) != 0) = true := by simpa using z
      rw [e, cond_true]
  · simp only [y3u, decide_eq_false (show ¬ i ≥ 0 by omega), cond_false]
theorem fit2_eq (v : VOK L nw cur) {n step : Int} (hn : 1 ≤ n) (hs : 1 ≤ step ∧ step ≤ 256) : ∃ r, y36 nw cur L n step = some r ∧
    Least L.c.Pages (Does L.c.Pages step n (fun j => knd L.at_1 L.c.Pages cur j = 0)) r := by
  have hpg := v.lay.pages
  have hst : (!step == 0) = true := by simp; omega
  have hnext : ∀ p i, (1 ≤ n ∧ 0 ≤ p ∧ p < L.c.Pages ∧ n ≤ L.c.Pages - p) → 0 ≤ i → i < n → IntKind.i64.wrap (IntKind.i64.wrap (IntKind.i64.wrap (Int.tdiv (IntKind.i64.wrap (p + i)) step) * step) + step) = (p + i) / step * step + step := fun p i c h0 h1 => by
    have a1 : (p + i) / step * step ≤ p + i := Int.ediv_mul_le _ (by omega)
    have a2 : 0 ≤ (p + i) / step := Int.ediv_nonneg (by omega) (by omega)
    have a3 : (p + i) / step ≤ p + i := Int.ediv_le_self _ (by omega)
    have a4 : 0 ≤ (p + i) / step * step := Int.mul_nonneg a2 (by omega)
    rw [wrap_id (x := p + i) (by omega) (by omega), Int.tdiv_eq_ediv_of_nonneg (by omega), wrap_id (x := (p + i) / step) (by omega) (by omega), wrap_id (x := (p + i) / step * step) (by omega) (by omega), wrap_id (by omega) (by omega)]
  refine fit_gen (fun p => y43 nw cur L n step p) (fun p i => y3v nw cur L step p i) hn hs hpg (fun p c => ?_) (fun p p0 p1 c => ?_) (fun p i c h0 h1 hk => ?_) (fun p i c h0 h1 hk => ?_) (fun p i h0 => ?_)
  · simp only [y43, eall_eq v.lay, Option.bind_some, decide_eq_true c, cond_true]
    rw [wrap_id (by omega) (by omega)]; rfl
  · simp only [y43, eall_eq v.lay, Option.bind_some, decide_eq_false c, cond_false]
  · simp only [y3v]
    rw [decide_eq_true (show i ≥ 0 from h0), cond_true, wrap_id (x := p + i) (by omega) (by omega), eKind_eq v, Option.bind_some, hk]
    unfold y00
    rw [Option.bind_some, show ((0 : Int) != 0) = false from rfl, cond_false, Bool.not_true, cond_false, wrap_id (x := i - 1) (by omega) (by omega)]
  · simp only [y3v, hnext p i c h0 h1, hst, cond_true]
    rw [decide_eq_true (show i ≥ 0 from h0), cond_true, wrap_id (x := p + i) (by omega) (by omega), eKind_eq v, Option.bind_some]
    have e : (knd L.at_1 L.c.Pages cur (p + i) != 0) = true := by simpa using hk
    rw [e, cond_true]
  · simp only [y3v, decide_eq_false (show ¬ i ≥ 0 by omega), cond_false]
def FindR (L : ya) (cur : List Int) (n step r : Int) : Prop :=
  if 1 ≤ n ∧ 1 ≤ step then Found L.c.Pages step n (fun j => knd L.at_1 L.c.Pages cur j = 0) (mpd L cur) r else r = -1
theorem FindR.uniq {n step r r' : Int} (h : FindR L cur n step r) (h' : FindR L cur n step r') : r = r' := by
  unfold FindR at h h'
  split at h
  · rename_i c; rw [if_pos c] at h'; exact h.uniq h'
  · rename_i c; rw [if_neg c] at h'; rw [h, h']
theorem does_free {p n step : Int} {kb pg : Int} {w : List Int} : Does pg step n (fun j => knd kb pg w j = 0) p ↔ p % step = 0 ∧ FreeR kb pg w p n := by
  constructor
  · intro d
    refine ⟨d.mul, d.span, fun i h0 h1 => ?_⟩
    have := d.all (p + i) (by omega) (by omega)
    have hs := d.span
    rw [knd_in (by omega)] at this; exact this
  · rintro ⟨m, f⟩
    refine ⟨m, f.span, fun j h0 h1 => ?_⟩
    have := f.free (j - p) (by omega) (by omega)
    have hs := f.span
    rw [knd_in (by omega)]
    rw [show p + (j - p) = j by omega] at this; exact this
theorem eFind_eq (v : VOK L nw cur) (n step : Int) : ∃ r, y2m nw cur L n step = some r ∧ FindR L cur n step r := by
  have hpg := v.lay.pages
  unfold y2m FindR
  by_cases a : n < 1
  · rw [decide_eq_true a, cond_true, decide_eq_false (show ¬ n ≥ 1 by omega), cond_false]
    exact ⟨_, rfl, by rw [if_neg (by omega)]⟩
  rw [decide_eq_false a, cond_false]
  by_cases b : step < 1
  · rw [decide_eq_true b, cond_true, decide_eq_true (show n ≥ 1 by omega), cond_true, decide_eq_false (show ¬ step > 256 by omega), cond_false]
    exact ⟨_, rfl, by rw [if_neg (by omega)]⟩
  rw [decide_eq_false b, cond_false]
  simp only [if_pos (show 1 ≤ n ∧ 1 ≤ step by omega)]
  by_cases c : step > 256
  · rw [decide_eq_true c, cond_true, decide_eq_true (show n ≥ 1 by omega), cond_true, cond_true, eopen_eq v, Option.bind_some]
    have only : ∀ {ok : Int → Prop} {q : Int}, Does L.c.Pages step n ok q → q = 0 := fun {ok q} d => by
      have hs := d.span
      have := d.mul
      rw [Int.emod_eq_of_lt (by omega) (by omega)] at this; exact this
    by_cases f : FreeR L.at_1 L.c.Pages cur 0 n
    · rw [decide_eq_true f, cond_true]
      refine ⟨_, rfl, ?_⟩
      have d0 : Does L.c.Pages step n (fun j => knd L.at_1 L.c.Pages cur j = 0) 0 := does_free.2 ⟨by simp, f⟩
      by_cases m : Does L.c.Pages step n (fun j => knd L.at_1 L.c.Pages cur j = 0 ∧ mpd L cur j) 0
      · exact .inl ⟨by omega, fit_hit m (fun q h0 h1 => by omega)⟩
      · refine .inr ⟨.inl ⟨rfl, fun q h0 h1 d => ?_⟩, fit_hit d0 (fun q h0 h1 => by omega)⟩
        have e := only d
        subst e
        exact m d
    · rw [decide_eq_false f, cond_false]
      refine ⟨_, rfl, .inr ⟨.inl ⟨rfl, fun q h0 h1 d => ?_⟩, .inl ⟨rfl, fun q h0 h1 d => ?_⟩⟩⟩
      · have e := only d
        subst e
        exact f (does_free.1 (d.mono (fun j _ _ h => h.1))).2
      · have e := only d
        subst e
        exact f (does_free.1 d).2
  · rw [decide_eq_false c, cond_false]
    obtain ⟨r, h1, h2⟩ := fit1_eq v (n := n) (step := step) (by omega) (by omega)
    obtain ⟨r2, k1, k2⟩ := fit2_eq v (n := n) (step := step) (by omega) (by omega)
    rw [h1, Option.bind_some]
    by_cases e : r = -1
    · have e1 : (r != -1) = false := by rw [e]; rfl
      rw [e1, cond_false, k1, Option.bind_some]
      subst e
      exact ⟨_, rfl, .inr ⟨h2, k2⟩⟩
    · have e1 : (r != -1) = true := by simpa using e
      rw [e1, cond_true]
      refine ⟨_, rfl, .inl ⟨?_, h2⟩⟩
      rcases h2 with ⟨h, _⟩ | ⟨h, _⟩
      · exact (e h).elim
      · exact h
end
end Go.Rx
end

section
namespace Go.Rx
open Go.Proofs
theorem Ran.len' {kb pg : Int} {w u : List Int} {p n k : Int} (r : Ran kb pg w u p n k) : u.length = w.length := r.len
theorem ens_off {cur : List Int} {pg tb p n : Int} (htb : 0 ≤ tb) {b : Int} (hb : tb + (pg + 3) / 4 ≤ b) : wd (ensM cur pg tb p n).2 b = wd cur b := by
  have h := ens_out (cur := cur) (pg := pg) (tb := tb) (a := p / 4) (j := b.toNat) htb (.inr (by omega)) (ensK pg p n)
  unfold ensM wd; rw [List.getD, List.getD, h]
section
variable {L : ya} {nw : Nat} {cur : List Int}
structure TakeW (L : ya) (cur u : List Int) (p n k : Int) : Prop where
  ran : Ran L.at_1 L.c.Pages (setP L.at_1 L.c.Pages (ensM cur L.c.Pages L.at_0 p n).2 p k (if k = 6 then n else 0)) u (p + 1) (n - 1) 7
theorem TakeW.len {L : ya} {cur u : List Int} {p n k : Int} (t : TakeW L cur u p n k) : u.length = cur.length := by
  rw [t.ran.len, setP_len]; unfold ensM; rw [ensG_len]
theorem take_loop (v : VOK L nw cur) {p n : Int} (hs : 1 ≤ n ∧ 0 ≤ p ∧ p < L.c.Pages ∧ n ≤ L.c.Pages - p) : ∃ u, y3j nw L p n (1, cur) = some (true, u) ∧ Ran L.at_1 L.c.Pages cur u (p + 1) (n - 1) 7 := by
  have hpg := v.lay.pages
  have g := v.geoK
  obtain ⟨r, h1, u, rfl, h2⟩ := loopO_ind (step := fun s : Int × List Int => y4q nw L p n s.1 s.2)
    (I := fun s => 1 ≤ s.1 ∧ s.1 ≤ n ∧ Ran L.at_1 L.c.Pages cur s.2 (p + 1) (s.1 - 1) 7) (μ := fun s => (n - s.1).toNat) (fun r => ∃ u, r = (true, u) ∧ Ran L.at_1 L.c.Pages cur u (p + 1) (n - 1) 7) (by
      rintro ⟨i, u⟩ ⟨i1, i2, i3⟩
      simp only at i1 i2 i3 ⊢
      simp only [y4q]
      by_cases c : i < n
      · have vu : VOK L nw u := ⟨v.lay, by rw [i3.len]; exact v.len, v.all⟩
        rw [decide_eq_true c, cond_true, wrap_id (x := p + i) (by omega) (by omega), eset_eq vu (by omega), Option.bind_some, wrap_id (by omega) (by omega)]
        have st := i3.step g (by omega) (by omega) (by omega)
        rw [show p + 1 + (i - 1) = p + i by omega, show i - 1 + 1 = i + 1 - 1 by omega] at st
        exact .inl ⟨_, rfl, ⟨by simp only; omega, by simp only; omega, st⟩, by simp only; omega⟩
      · have e : i = n := by omega
        subst e
        rw [decide_eq_false c, cond_false]
        exact .inr ⟨_, rfl, _, rfl, i3⟩) (1, cur) ⟨by omega, by omega, by simpa using Ran.zero _ _ _ _ _⟩
  exact ⟨u, h1, h2⟩
def MayTake (L : ya) (cur : List Int) (p n k : Int) : Prop := (1 ≤ k ∧ k ≤ 6) ∧ (k < 6 → n = 1) ∧ FreeR L.at_1 L.c.Pages cur p n
instance (L : ya) (cur : List Int) (p n k : Int) : Decidable (MayTake L cur p n k) :=
  decidable_of_iff ((1 ≤ k ∧ k ≤ 6) ∧ (k < 6 → n = 1) ∧ FreeR L.at_1 L.c.Pages cur p n) Iff.rfl
theorem eTake_yes (v : VOK L nw cur) {p n k : Int} (h : MayTake L cur p n k) (hp : I64 p) : ∃ u, y1p nw cur L p n k = some (true, u) ∧ TakeW L cur u p n k := by
  obtain ⟨⟨k1, k2⟩, k3, f⟩ := h
  have hs := f.span
  have ve := v.ens p n
  have core : ((yy nw cur L p n).bind fun y4 => (bif (!y4) then some (((Bool.false), (cur))) else ((y04 nw cur L p n).bind fun y5 => (bif (k == 6) then ((yn nw (Prod.snd y5) L p k n).bind fun y6 => (y3j nw L p n ((1), (y6)))) else ((yn nw (Prod.snd y5) L p k 0).bind fun y7 => (y3j nw L p n ((1), (y7)))))))) = y3j nw L p n (1, setP L.at_1 L.c.Pages (ensM cur L.c.Pages L.at_0 p n).2 p k (if k = 6 then n else 0)) := by
    rw [eopen_eq v, Option.bind_some, decide_eq_true f, Bool.not_true, cond_false, Ensure_eq v hp, Option.bind_some, eset_eq ve (by omega), eset_eq ve (by omega), Option.bind_some, Option.bind_some]
    by_cases e : k = 6
    · have e1 : (k == 6) = true := by rw [e]; rfl
      rw [e1, cond_true, if_pos e]
    · have e1 : (k == 6) = false := by simpa using e
      rw [e1, cond_false, if_neg e]
  unfold y1p
  rw [decide_eq_false (show ¬ k < 1 by omega), cond_false, decide_eq_false (show ¬ k > 6 by omega), cond_false]
  obtain ⟨u, h1, h2⟩ := take_loop (ve.setP p k (if k = 6 then n else 0)) hs
  refine ⟨u, ?_, ⟨h2⟩⟩
  by_cases c : k < 6
  · have e : (n != 1) = false := by rw [k3 c]; rfl
    rw [decide_eq_true c, cond_true, e, cond_false, core, h1]
  · rw [decide_eq_false c, cond_false, core, h1]
theorem eTake_no (v : VOK L nw cur) {p n k : Int} (h : ¬ MayTake L cur p n k) : y1p nw cur L p n k = some (false, cur) := by
  unfold y1p
  by_cases k1 : k < 1
  · rw [decide_eq_true k1]; rfl
  rw [decide_eq_false k1, cond_false]
  by_cases k2 : k > 6
  · rw [decide_eq_true k2]; rfl
  rw [decide_eq_false k2, cond_false, eopen_eq v, Option.bind_some]
  by_cases c : k < 6
  · rw [decide_eq_true c, cond_true]
    by_cases e : n = 1
    · have e1 : (n != 1) = false := by rw [e]; rfl
      rw [e1, cond_false, decide_eq_false (fun f => h ⟨by omega, fun _ => e, f⟩)]; rfl
    · have e1 : (n != 1) = true := by simpa using e
      rw [e1]; rfl
  · rw [decide_eq_false c, cond_false, decide_eq_false (fun f => h ⟨by omega, fun x => (c x).elim, f⟩)]; rfl
theorem length_eq (v : VOK L nw cur) {p : Int} (hp : 0 ≤ p ∧ p < L.c.Pages) : ∃ n, y0l nw cur L p = some n ∧ RunLen L.at_1 L.c.Pages cur p n := by
  have hpg := v.lay.pages
  unfold y0l
  rw [eKind_eq v, Option.bind_some]
  by_cases c : knd L.at_1 L.c.Pages cur p = 6
  · have e : (knd L.at_1 L.c.Pages cur p == 6) = true := by rw [c]; rfl
    rw [e, cond_true]
    exact loopO_ind (step := fun s : Int => y4z nw cur L p s) (I := fun n => 1 ≤ n ∧ p + n ≤ L.c.Pages ∧ ∀ i, 1 ≤ i → i < n → knd L.at_1 L.c.Pages cur (p + i) = 7) (μ := fun n => (L.c.Pages - n).toNat)
      (fun n => RunLen L.at_1 L.c.Pages cur p n) (by
        rintro n ⟨i1, i2, i3⟩
        simp only [y4z]
        rw [wrap_id (x := p + n) (by omega) (by omega), eKind_eq v, Option.bind_some]
        by_cases d : knd L.at_1 L.c.Pages cur (p + n) = 7
        · have e : (knd L.at_1 L.c.Pages cur (p + n) == 7) = true := by rw [d]; rfl
          have hin : p + n < L.c.Pages := by
            by_cases h : p + n < L.c.Pages
            · exact h
            · rw [knd_out (by omega)] at d; omega
          rw [e, cond_true, wrap_id (by omega) (by omega)]
          refine .inl ⟨_, rfl, ⟨by omega, by omega, fun i a b => ?_⟩, by omega⟩
          by_cases f : i = n
          · rw [f]; exact d
          · exact i3 i a (by omega)
        · have e : (knd L.at_1 L.c.Pages cur (p + n) == 7) = false := by simpa using d
          rw [e, cond_false]
          exact .inr ⟨_, rfl, ⟨i1, i2, i3, fun _ => d, fun h => (h c).elim⟩⟩) 1 ⟨by omega, by omega, fun i a b => by omega⟩
  · have e : (knd L.at_1 L.c.Pages cur p == 6) = false := by simpa using c
    rw [e, cond_false]
    exact ⟨1, rfl, ⟨by omega, by omega, fun i a b => by omega, fun h => (c h).elim, fun _ => rfl⟩⟩
theorem drop_loop (v : VOK L nw cur) {p n : Int} (hs : 1 ≤ n ∧ 0 ≤ p ∧ p + n ≤ L.c.Pages) : ∃ u, y74 nw L p n n (0, cur) = some (n, u) ∧ Ran L.at_1 L.c.Pages cur u p n 0 := by
  have hpg := v.lay.pages
  have g := v.geoK
  obtain ⟨r, h1, u, rfl, h2⟩ := loopO_ind (step := fun s : Int × List Int => y4m nw L p n n s.1 s.2)
    (I := fun s => 0 ≤ s.1 ∧ s.1 ≤ n ∧ Ran L.at_1 L.c.Pages cur s.2 p s.1 0) (μ := fun s => (n - s.1).toNat) (fun r => ∃ u, r = (n, u) ∧ Ran L.at_1 L.c.Pages cur u p n 0) (by
      rintro ⟨i, u⟩ ⟨i1, i2, i3⟩
      simp only at i1 i2 i3 ⊢
      simp only [y4m]
      by_cases c : i < n
      · have vu : VOK L nw u := ⟨v.lay, by rw [i3.len]; exact v.len, v.all⟩
        rw [decide_eq_true c, cond_true, wrap_id (x := p + i) (by omega) (by omega), eset_eq vu (by omega), Option.bind_some, wrap_id (by omega) (by omega)]
        exact .inl ⟨_, rfl, ⟨by simp only; omega, by simp only; omega, i3.step g (by omega) (by omega) (by omega)⟩, by simp only; omega⟩
      · have e : i = n := by omega
        subst e
        rw [decide_eq_false c, cond_false]
        exact .inr ⟨_, rfl, _, rfl, i3⟩) (0, cur) ⟨by omega, by omega, Ran.zero _ _ _ _ _⟩
  exact ⟨u, h1, h2⟩
theorem eDrop_eq (v : VOK L nw cur) (p : Int) : ∃ n u, y2c nw cur L p = some (n, u) ∧
    ((1 ≤ knd L.at_1 L.c.Pages cur p ∧ knd L.at_1 L.c.Pages cur p ≤ 6 ∧ RunLen L.at_1 L.c.Pages cur p n ∧ Ran L.at_1 L.c.Pages cur u p n 0) ∨
     (¬ (1 ≤ knd L.at_1 L.c.Pages cur p ∧ knd L.at_1 L.c.Pages cur p ≤ 6) ∧ n = 0 ∧ u = cur)) := by
  unfold y2c
  rw [eKind_eq v, Option.bind_some]
  by_cases a : knd L.at_1 L.c.Pages cur p ≤ 0
  · rw [decide_eq_true a, cond_true]
    exact ⟨_, _, rfl, .inr ⟨by omega, rfl, rfl⟩⟩
  rw [decide_eq_false a, cond_false]
  by_cases b : knd L.at_1 L.c.Pages cur p ≥ 7
  · rw [decide_eq_true b, cond_true]
    exact ⟨_, _, rfl, .inr ⟨by omega, rfl, rfl⟩⟩
  rw [decide_eq_false b, cond_false]
  have hp : 0 ≤ p ∧ p < L.c.Pages := by
    by_cases h : 0 ≤ p ∧ p < L.c.Pages
    · exact h
    · rw [knd_out h] at a; omega
  obtain ⟨n, h1, h2⟩ := length_eq v hp
  obtain ⟨u, h3, h4⟩ := drop_loop v (p := p) (n := n) ⟨h2.pos, hp.1, h2.inn⟩
  rw [h1, Option.bind_some, h3]
  exact ⟨_, _, rfl, .inl ⟨by omega, by omega, h2, h4⟩⟩
structure FirstR (kb pg : Int) (w : List Int) (p r : Int) : Prop where
  le : r ≤ p
  rest : ∀ j, r < j → j ≤ p → knd kb pg w j = 7
  fin : r ≤ 0 ∨ knd kb pg w r ≠ 7
  pos : 0 ≤ p → 0 ≤ r
theorem FirstR.uniq {kb pg : Int} {w : List Int} {p r r' : Int} (hp : 0 ≤ p) (h : FirstR kb pg w p r) (h' : FirstR kb pg w p r') : r = r' := by
  have a1 := h.pos hp; have a2 := h'.pos hp; have a3 := h.le; have a4 := h'.le
  by_cases c : r < r'
  · have := h.rest r' c a4
    rcases h'.fin with f | f
    · omega
    · exact (f this).elim
  · by_cases d : r' < r
    · have := h'.rest r d a3
      rcases h.fin with f | f
      · omega
      · exact (f this).elim
    · omega
theorem FreeR.congr {kb pg : Int} {w u : List Int} {p n : Int} (h : ∀ q, 0 ≤ q → q < pg → wd u (kb + q) = wd w (kb + q)) : FreeR kb pg u p n ↔ FreeR kb pg w p n := by
  constructor
  · intro f
    have hs := f.span
    refine ⟨hs, fun i a b => ?_⟩
    rw [← h (p + i) (by omega) (by omega)]; exact f.free i a b
  · intro f
    have hs := f.span
    refine ⟨hs, fun i a b => ?_⟩
    rw [h (p + i) (by omega) (by omega)]; exact f.free i a b
end
end Go.Rx
end

noncomputable section
namespace Go.Rx
open Go.Proofs
set_option maxRecDepth 100000
set_option maxHeartbeats 4000000
def y4u (l2 : yf) (p : Int) (w : List Int) : Option Int :=
  (bif (decide (p < 0)) then some (-1) else (bif (decide (p ≥ l2.C.Pages)) then some (-1) else ((y3x l2 p).bind fun y0 => (bif (inR y0 w.length) then (bif (inR (offs y0 0) w.length) then some (w.getD (offs y0 0).toNat 0) else none) else none))))
def y9w (l2 : yf) (p n : Int) (mapped : Bool) (w : List Int) (iv : Int) : Option (Int ⊕ Bool) :=
  (bif (decide (iv < IntKind.i64.wrap (p + n))) then ((y4u l2 iv w).bind fun y0 => (bif (y0 != 0) then some (.inr false) else (bif mapped then ((y4k iv).bind fun y1 => ((y4p l2 y1 w).bind fun y2 => (bif (!y2) then some (.inr false) else some (.inl (IntKind.i64.wrap (iv + 1)))))) else some (.inl (IntKind.i64.wrap (iv + 1)))))) else some (.inr true))
def yj5 (l2 : yf) (p n : Int) (mapped : Bool) (w : List Int) (s : Int) : Option Bool :=
  loopO (fun s => y9w l2 p n mapped w s) s
def y4f (l2 : yf) (p n : Int) (mapped : Bool) (w : List Int) : Option Bool :=
  (bif (decide (p < 0)) then some false else (bif (decide (p ≥ l2.C.Pages)) then some false else (bif (decide (n < 1)) then some false else (bif (decide (n > IntKind.i64.wrap (l2.C.Pages - p))) then some false else (yj5 l2 p n mapped w p)))))
def y9q (l2 : yf) (n step : Int) (w : List Int) (p : Int) : Option (Int ⊕ Int) :=
  (bif (decide (p < l2.C.Pages)) then (bif (!step == 0) then (bif (Int.tmod p step == 0) then ((y4f l2 p n false w).bind fun y0 => (bif y0 then some (.inr p) else some (.inl (IntKind.i64.wrap (p + 1))))) else some (.inl (IntKind.i64.wrap (p + 1)))) else none) else some (.inr (-1)))
def yco (l2 : yf) (n step : Int) (w : List Int) (s : Int) : Option Int :=
  loopO (fun s => y9q l2 n step w s) s
def y9i (l2 : yf) (n step : Int) (w : List Int) (p : Int) : Option (Int ⊕ Int) :=
  (bif (decide (p < l2.C.Pages)) then (bif (!step == 0) then (bif (Int.tmod p step == 0) then ((y4f l2 p n true w).bind fun y0 => (bif y0 then some (.inr p) else some (.inl (IntKind.i64.wrap (p + 1))))) else some (.inl (IntKind.i64.wrap (p + 1)))) else none) else ((yco l2 n step w 0).bind fun z => some (.inr z)))
def yid (l2 : yf) (n step : Int) (w : List Int) (s : Int) : Option Int :=
  loopO (fun s => y9i l2 n step w s) s
def y8t (l2 : yf) (n step : Int) (w : List Int) : Option Int :=
  (bif (decide (n < 1)) then some (-1) else (bif (decide (step < 1)) then some (-1) else (yid l2 n step w 0)))
def y3q (l2 : yf) (p kindv count : Int) (w : List Int) : Option (List Int) :=
  ((y3x l2 p).bind fun y0 => (bif (inR y0 w.length) then (bif (inR (offs y0 0) w.length) then ((y1n l2 p).bind fun y1 => (bif (inR y1 (List.length (List.set w (offs y0 0).toNat kindv))) then (bif (inR (offs y1 0) (List.length (List.set w (offs y0 0).toNat kindv))) then ((y1l l2 p).bind fun y2 => (bif (inR y2 (List.length (List.set (List.set w (offs y0 0).toNat kindv) (offs y1 0).toNat count))) then (bif (inR (offs y2 0) (List.length (List.set (List.set w (offs y0 0).toNat kindv) (offs y1 0).toNat count))) then some (List.set (List.set (List.set w (offs y0 0).toNat kindv) (offs y1 0).toNat count) (offs y2 0).toNat 0) else none) else none)) else none) else none)) else none) else none))
def y5v (l2 : yf) (p n : Int) (kindv iv : Int) (w2 : List Int) : Option ((Int × (List Int)) ⊕ (Bool × (List Int))) :=
  (bif (decide (iv < IntKind.i64.wrap (p + n))) then ((y3q l2 iv 7 0 w2).bind fun y0 => some (.inl ((IntKind.i64.wrap (iv + 1)), y0))) else (bif (kindv == 6) then ((y3q l2 p kindv n w2).bind fun y1 => some (.inr (true, y1))) else ((y3q l2 p kindv 0 w2).bind fun y2 => some (.inr (true, y2)))))
def y71 (l2 : yf) (p n kindv : Int) (s : Int × (List Int)) : Option (Bool × (List Int)) :=
  loopO (fun s => y5v l2 p n kindv s.1 s.2) s
def y9s (l2 : yf) (p n kindv : Int) (w : List Int) : Option (Bool × (List Int)) :=
  ((y4f l2 p n false w).bind fun y0 => (bif (!y0) then some (false, w) else (bif (decide (kindv < 1)) then some (false, w) else (bif (decide (kindv > 6)) then some (false, w) else (bif (decide (kindv < 6)) then (bif (n != 1) then some (false, w) else ((y5l l2 p n w).bind fun y1 => (y71 l2 p n kindv (p, y1.2)))) else ((y5l l2 p n w).bind fun y2 => (y71 l2 p n kindv (p, y2.2))))))))
def y8s (l2 : yf) (p k n : Int) (w2 : List Int) : Option ((Int × (List Int)) ⊕ (Int × (List Int))) :=
  (bif (k == 6) then ((y4u l2 (IntKind.i64.wrap (p + n)) w2).bind fun y0 => (bif (y0 == 7) then ((y3q l2 (IntKind.i64.wrap (p + n)) 0 0 w2).bind fun y1 => some (.inl ((IntKind.i64.wrap (n + 1)), y1))) else some (.inr (n, w2)))) else some (.inr (n, w2)))
def yh0 (l2 : yf) (p k : Int) (s : Int × (List Int)) : Option (Int × (List Int)) :=
  loopO (fun s => y8s l2 p k s.1 s.2) s
def y79 (l2 : yf) (p : Int) (w : List Int) : Option (Int × (List Int)) :=
  ((y4u l2 p w).bind fun y0 => (bif (decide (y0 < 1)) then some (0, w) else (bif (decide (y0 > 6)) then some (0, w) else ((y3q l2 p 0 0 w).bind fun y1 => (yh0 l2 p y0 (1, y1))))))
attribute [local irreducible] Loop ex exF contK roundK retK at_ bodyOf mkEnv
end Go.Rx
end

section
namespace Go.Rx
open Go.Proofs
theorem offs_id {a : Int} (h : 0 ≤ a) : offs a 0 = a := by
  have e : a = ((a.toNat : Nat) : Int) := by omega
  rw [e]; rfl
section
variable {c : yb} {w : List Int}
theorem r9Kind_eq (h : RightC c) (v : VOK (layC c) w.length w) (p : Int) : y4u ⟨c⟩ p w = some (knd (layC c).at_1 c.Pages w p) := by
  have g := v.lay.geoK; have ha := v.all; have hpg := h.pages
  have e0 : (layC c).c = c := rfl
  rw [e0] at g
  unfold y4u
  by_cases a : p < 0
  · rw [decide_eq_true a, cond_true, knd_out (by omega)]
  rw [decide_eq_false a, cond_false]
  by_cases b : p ≥ c.Pages
  · rw [decide_eq_true b, cond_true, knd_out (by omega)]
  rw [decide_eq_false b, cond_false, rKind_eq h, Option.bind_some]
  have e1 : lPg (layC c) (layC c).at_1 p = (layC c).at_1 + p := by unfold lPg; rw [e0, if_pos (by omega)]
  rw [e1, offs_id (by omega), inR_int (by omega) (by omega), cond_true, cond_true, knd_in (by omega)]; rfl
def OpenR (kb pg tb : Int) (w : List Int) (m : Bool) (p n : Int) : Prop := FreeR kb pg w p n ∧ (m = true → ∀ j, p ≤ j → j < p + n → isB w pg tb (j / 4) 1 = true)
theorem r9open_eq (h : RightC c) (v : VOK (layC c) w.length w) (p n : Int) (m : Bool) : ∃ b, y4f ⟨c⟩ p n m w = some b ∧ (b = true ↔ OpenR (layC c).at_1 c.Pages (layC c).at_0 w m p n) := by
  have hpg := h.pages
  have no : ¬ (1 ≤ n ∧ 0 ≤ p ∧ p < c.Pages ∧ n ≤ c.Pages - p) → ((false = true) ↔ OpenR (layC c).at_1 c.Pages (layC c).at_0 w m p n) := fun hn => ⟨fun x => (by cases x), fun x => (hn x.1.span).elim⟩
  unfold y4f
  by_cases a : p < 0
  · rw [decide_eq_true a, cond_true]; exact ⟨_, rfl, no (by omega)⟩
  rw [decide_eq_false a, cond_false]
  by_cases b : p ≥ c.Pages
  · rw [decide_eq_true b, cond_true]; exact ⟨_, rfl, no (by omega)⟩
  rw [decide_eq_false b, cond_false]
  by_cases d : n < 1
  · rw [decide_eq_true d, cond_true]; exact ⟨_, rfl, no (by omega)⟩
  rw [decide_eq_false d, cond_false, wrap_id (x := c.Pages - p) (by omega) (by omega)]
  by_cases e : n > c.Pages - p
  · rw [decide_eq_true e, cond_true]; exact ⟨_, rfl, no (by omega)⟩
  rw [decide_eq_false e, cond_false]
  exact loopO_ind (step := fun s : Int => y9w ⟨c⟩ p n m w s)
    (I := fun i => p ≤ i ∧ i ≤ p + n ∧ ∀ j, p ≤ j → j < i → wd w ((layC c).at_1 + j) = 0 ∧ (m = true → isB w c.Pages (layC c).at_0 (j / 4) 1 = true)) (μ := fun i => (p + n - i).toNat)
    (fun b => b = true ↔ OpenR (layC c).at_1 c.Pages (layC c).at_0 w m p n) (by
      rintro i ⟨i0, i1, i2⟩
      simp only [y9w]
      rw [wrap_id (x := p + n) (by omega) (by omega)]
      by_cases cc : i < p + n
      · rw [decide_eq_true cc, cond_true, r9Kind_eq h v, Option.bind_some, knd_in (by omega), wrap_id (x := i + 1) (by omega) (by omega)]
        by_cases z : wd w ((layC c).at_1 + i) = 0
        · have e1 : (wd w ((layC c).at_1 + i) != 0) = false := by rw [z]; rfl
          rw [e1, cond_false]
          have more : (m = true → isB w c.Pages (layC c).at_0 (i / 4) 1 = true) → p ≤ i + 1 ∧ i + 1 ≤ p + n ∧ ∀ j, p ≤ j → j < i + 1 → wd w ((layC c).at_1 + j) = 0 ∧ (m = true → isB w c.Pages (layC c).at_0 (j / 4) 1 = true) := fun hm =>
            ⟨by omega, by omega, fun j j0 j1 => by
              by_cases f : j = i
              · rw [f]; exact ⟨z, hm⟩
              · exact i2 j j0 (by omega)⟩
          cases m with
          | false => exact .inl ⟨_, rfl, more (fun x => by cases x), by omega⟩
          | true =>
            have hch : chunkI i = i / 4 := by unfold chunkI; rw [decide_eq_false (by omega)]; rfl
            rw [cond_true, rOf_eq (by omega), Option.bind_some, rMapped_eq h v, Option.bind_some, hch]
            cases hb : isB w c.Pages (layC c).at_0 (i / 4) 1 with
            | true => exact .inl ⟨_, rfl, more (fun _ => hb), by omega⟩
            | false =>
              refine .inr ⟨_, rfl, ⟨fun x => (by cases x), fun x => ?_⟩⟩
              have := x.2 rfl i i0 cc
              rw [hb] at this; cases this
        · have e1 : (wd w ((layC c).at_1 + i) != 0) = true := by simpa using z
          rw [e1, cond_true]
          refine .inr ⟨_, rfl, ⟨fun x => (by cases x), fun x => ?_⟩⟩
          have := x.1.free (i - p) (by omega) (by omega)
          rw [show p + (i - p) = i by omega] at this
          exact (z this).elim
      · rw [decide_eq_false cc, cond_false]
        refine .inr ⟨_, rfl, ⟨fun _ => ⟨⟨by omega, fun k k0 k1 => (i2 (p + k) (by omega) (by omega)).1⟩, fun hm j j0 j1 => (i2 j j0 (by omega)).2 hm⟩, fun _ => rfl⟩⟩) p ⟨by omega, by omega, fun j j0 j1 => by omega⟩
theorem open_does {n step p : Int} : (p % step = 0 ∧ OpenR (layC c).at_1 c.Pages (layC c).at_0 w true p n) ↔ Does c.Pages step n (fun j => knd (layC c).at_1 c.Pages w j = 0 ∧ mpd (layC c) w j) p := by
  constructor
  · rintro ⟨m, f, hm⟩
    have hs := f.span
    refine ⟨m, hs, fun j j0 j1 => ⟨?_, hm rfl j j0 j1⟩⟩
    have := f.free (j - p) (by omega) (by omega)
    rw [knd_in (by omega)]
    rw [show p + (j - p) = j by omega] at this; exact this
  · intro d
    have hs := d.span
    refine ⟨d.mul, ⟨hs, fun i i0 i1 => ?_⟩, fun _ j j0 j1 => (d.all j j0 j1).2⟩
    have := (d.all (p + i) (by omega) (by omega)).1
    rw [knd_in (by omega)] at this; exact this
theorem open_does0 {n step p : Int} : (p % step = 0 ∧ OpenR (layC c).at_1 c.Pages (layC c).at_0 w false p n) ↔ Does c.Pages step n (fun j => knd (layC c).at_1 c.Pages w j = 0) p := by
  rw [does_free]
  exact ⟨fun x => ⟨x.1, x.2.1⟩, fun x => ⟨x.1, x.2, fun h => by cases h⟩⟩
theorem r9Find_eq (h : RightC c) (v : VOK (layC c) w.length w) (n step : Int) : ∃ r, y8t ⟨c⟩ n step w = some r ∧ FindR (layC c) w n step r := by
  have hpg := h.pages
  have e0 : (layC c).c.Pages = c.Pages := rfl
  unfold y8t FindR
  by_cases a : n < 1
  · rw [decide_eq_true a, cond_true]; exact ⟨_, rfl, by rw [if_neg (by omega)]⟩
  rw [decide_eq_false a, cond_false]
  by_cases b : step < 1
  · rw [decide_eq_true b, cond_true]; exact ⟨_, rfl, by rw [if_neg (by omega)]⟩
  rw [decide_eq_false b, cond_false]
  simp only [if_pos (show 1 ≤ n ∧ 1 ≤ step by omega), e0]
  have hst : (!step == 0) = true := by simp; omega
  have inner : ∃ r, yco ⟨c⟩ n step w 0 = some r ∧ Least c.Pages (Does c.Pages step n (fun j => knd (layC c).at_1 c.Pages w j = 0)) r :=
    loopO_ind (step := fun s : Int => y9q ⟨c⟩ n step w s) (I := fun p => 0 ≤ p ∧ p ≤ c.Pages ∧ ∀ q, 0 ≤ q → q < p → ¬ Does c.Pages step n (fun j => knd (layC c).at_1 c.Pages w j = 0) q) (μ := fun p => (c.Pages - p).toNat)
      (fun r => Least c.Pages (Does c.Pages step n (fun j => knd (layC c).at_1 c.Pages w j = 0)) r) (by
        rintro p ⟨p0, p1, p2⟩
        simp only [y9q]
        by_cases cc : p < c.Pages
        · rw [decide_eq_true cc, cond_true, hst, cond_true, Int.tmod_eq_emod_of_nonneg p0, wrap_id (x := p + 1) (by omega) (by omega)]
          have next : ¬ Does c.Pages step n (fun j => knd (layC c).at_1 c.Pages w j = 0) p → 0 ≤ p + 1 ∧ p + 1 ≤ c.Pages ∧ ∀ q, 0 ≤ q → q < p + 1 → ¬ Does c.Pages step n (fun j => knd (layC c).at_1 c.Pages w j = 0) q := fun hn =>
            ⟨by omega, by omega, fun q q0 q1 => by
              by_cases f : q = p
              · rw [f]; exact hn
              · exact p2 q q0 (by omega)⟩
          by_cases m : p % step = 0
          · have em : (p % step == 0) = true := by rw [m]; rfl
            obtain ⟨b, b1, b2⟩ := r9open_eq h v p n false
            rw [em, cond_true, b1, Option.bind_some]
            cases b with
            | true => exact .inr ⟨_, rfl, fit_hit (open_does0.1 ⟨m, b2.1 rfl⟩) p2⟩
            | false => exact .inl ⟨_, rfl, next (fun d => by have := b2.2 (open_does0.2 d).2; cases this), by omega⟩
          · have em : (p % step == 0) = false := by simpa using m
            rw [em, cond_false]
            exact .inl ⟨_, rfl, next (fun d => m d.mul), by omega⟩
        · rw [decide_eq_false cc, cond_false]
          exact .inr ⟨_, rfl, .inl ⟨rfl, fun q q0 q1 => p2 q q0 (by omega)⟩⟩) 0 ⟨by omega, by omega, fun q q0 q1 => by omega⟩
  obtain ⟨r2, k1, k2⟩ := inner
  exact loopO_ind (step := fun s : Int => y9i ⟨c⟩ n step w s) (I := fun p => 0 ≤ p ∧ p ≤ c.Pages ∧ ∀ q, 0 ≤ q → q < p → ¬ Does c.Pages step n (fun j => knd (layC c).at_1 c.Pages w j = 0 ∧ mpd (layC c) w j) q) (μ := fun p => (c.Pages - p).toNat)
    (fun r => Found c.Pages step n (fun j => knd (layC c).at_1 c.Pages w j = 0) (mpd (layC c) w) r) (by
      rintro p ⟨p0, p1, p2⟩
      simp only [y9i]
      by_cases cc : p < c.Pages
      · rw [decide_eq_true cc, cond_true, hst, cond_true, Int.tmod_eq_emod_of_nonneg p0, wrap_id (x := p + 1) (by omega) (by omega)]
        have next : ¬ Does c.Pages step n (fun j => knd (layC c).at_1 c.Pages w j = 0 ∧ mpd (layC c) w j) p → 0 ≤ p + 1 ∧ p + 1 ≤ c.Pages ∧ ∀ q, 0 ≤ q → q < p + 1 → ¬ Does c.Pages step n (fun j => knd (layC c).at_1 c.Pages w j = 0 ∧ mpd (layC c) w j) q := fun hn =>
          ⟨by omega, by omega, fun q q0 q1 => by
            by_cases f : q = p
            · rw [f]; exact hn
            · exact p2 q q0 (by omega)⟩
        by_cases m : p % step = 0
        · have em : (p % step == 0) = true := by rw [m]; rfl
          obtain ⟨b, b1, b2⟩ := r9open_eq h v p n true
          rw [em, cond_true, b1, Option.bind_some]
          cases b with
          | true => exact .inr ⟨_, rfl, .inl ⟨p0, fit_hit (open_does.1 ⟨m, b2.1 rfl⟩) p2⟩⟩
          | false => exact .inl ⟨_, rfl, next (fun d => by have := b2.2 (open_does.2 d).2; cases this), by omega⟩
        · have em : (p % step == 0) = false := by simpa using m
          rw [em, cond_false]
          exact .inl ⟨_, rfl, next (fun d => m d.mul), by omega⟩
      · rw [decide_eq_false cc, cond_false, k1]
        exact .inr ⟨_, rfl, .inr ⟨.inl ⟨rfl, fun q q0 q1 => p2 q q0 (by omega)⟩, k2⟩⟩) 0 ⟨by omega, by omega, fun q q0 q1 => by omega⟩
theorem r9set_eq (h : RightC c) (v : VOK (layC c) w.length w) {p : Int} (hp : 0 ≤ p ∧ p < c.Pages) (k n : Int) : y3q ⟨c⟩ p k n w = some (setP (layC c).at_1 c.Pages w p k n) := by
  have g := v.lay.geoK; have ha := v.all; have hpg := h.pages
  have e0 : (layC c).c = c := rfl
  rw [e0] at g
  unfold y3q
  have e1 : lPg (layC c) (layC c).at_1 p = (layC c).at_1 + p := by unfold lPg; rw [e0, if_pos hp]
  have e2 : lPg (layC c) (layC c).at_2 p = (layC c).at_1 + c.Pages + p := by unfold lPg; rw [e0, if_pos hp]; omega
  have e3 : lPg (layC c) (layC c).at_3 p = (layC c).at_1 + 2 * c.Pages + p := by unfold lPg; rw [e0, if_pos hp]; omega
  rw [rKind_eq h, Option.bind_some, rCount_eq h, Option.bind_some, rBits_eq h, Option.bind_some, e1, e2, e3, offs_id (by omega), offs_id (by omega), offs_id (by omega)]
  simp only [List.length_set]
  rw [inR_int (by omega) (by omega), inR_int (by omega) (by omega), inR_int (by omega) (by omega)]; rfl
theorem r9Take_yes (h : RightC c) (v : VOK (layC c) w.length w) {p n k : Int} (hm : MayTake (layC c) w p n k) : ∃ u, y9s ⟨c⟩ p n k w = some (true, u) ∧ (∀ u', TakeW (layC c) w u' p n k → u = u') := by
  obtain ⟨⟨k1, k2⟩, k3, f⟩ := hm
  have hs := f.span
  have e0 : (layC c).c.Pages = c.Pages := rfl
  rw [e0] at hs
  have hpg := h.pages
  obtain ⟨b, b1, b2⟩ := r9open_eq h v p n false
  have hb : b = true := b2.2 ⟨f, fun x => by cases x⟩
  subst hb
  have ve : VOK (layC c) (ensM w c.Pages (layC c).at_0 p n).2.length (ensM w c.Pages (layC c).at_0 p n).2 := ⟨v.lay, rfl, by unfold ensM; rw [ensG_len]; exact v.all⟩
  have g : GeoK (layC c).at_1 c.Pages (ensM w c.Pages (layC c).at_0 p n).2.length := ve.geoK
  have loop : ∃ u, y71 ⟨c⟩ p n k (p, (ensM w c.Pages (layC c).at_0 p n).2) = some (true, u) ∧ ∃ u2, Ran (layC c).at_1 c.Pages (ensM w c.Pages (layC c).at_0 p n).2 u2 p n 7 ∧ u = setP (layC c).at_1 c.Pages u2 p k (if k = 6 then n else 0) := by
    generalize (ensM w c.Pages (layC c).at_0 p n).2 = w0 at *
    obtain ⟨r, h1, u, rfl, h2⟩ := loopO_ind (step := fun s : Int × List Int => y5v ⟨c⟩ p n k s.1 s.2)
      (I := fun s => p ≤ s.1 ∧ s.1 ≤ p + n ∧ Ran (layC c).at_1 c.Pages w0 s.2 p (s.1 - p) 7) (μ := fun s => (p + n - s.1).toNat) (fun r => ∃ u, r = (true, u) ∧ ∃ u2, Ran (layC c).at_1 c.Pages w0 u2 p n 7 ∧ u = setP (layC c).at_1 c.Pages u2 p k (if k = 6 then n else 0)) (by
        rintro ⟨i, u⟩ ⟨i1, i2, i3⟩
        simp only at i1 i2 i3 ⊢
        simp only [y5v]
        have vu : VOK (layC c) u.length u := ⟨v.lay, rfl, by rw [i3.len]; exact ve.all⟩
        rw [wrap_id (x := p + n) (by omega) (by omega)]
        by_cases cc : i < p + n
        · rw [decide_eq_true cc, cond_true, r9set_eq h vu (by omega), Option.bind_some, wrap_id (by omega) (by omega)]
          have st := i3.step g (by omega) (by omega) (by omega)
          rw [show p + (i - p) = i by omega, show i - p + 1 = i + 1 - p by omega] at st
          exact .inl ⟨_, rfl, ⟨by simp only; omega, by simp only; omega, st⟩, by simp only; omega⟩
        · have e : i = p + n := by omega
          subst e
          rw [show p + n - p = n by omega] at i3
          rw [decide_eq_false cc, cond_false, r9set_eq h vu (by omega), r9set_eq h vu (by omega), Option.bind_some, Option.bind_some]
          by_cases e : k = 6
          · have e1 : (k == 6) = true := by rw [e]; rfl
            rw [e1, cond_true]
            exact .inr ⟨_, rfl, _, rfl, u, i3, by rw [if_pos e]⟩
          · have e1 : (k == 6) = false := by simpa using e
            rw [e1, cond_false]
            exact .inr ⟨_, rfl, _, rfl, u, i3, by rw [if_neg e]⟩) (p, w0) ⟨by omega, by omega, by simpa using Ran.zero _ _ _ _ _⟩
    exact ⟨u, h1, h2⟩
  obtain ⟨u, h1, u2, h2, rfl⟩ := loop
  refine ⟨_, ?_, fun u' t => take_same g hs t.ran h2⟩
  unfold y9s
  rw [b1, Option.bind_some, Bool.not_true, cond_false, decide_eq_false (show ¬ k < 1 by omega), cond_false, decide_eq_false (show ¬ k > 6 by omega), cond_false, rEnsure_eq h v, Option.bind_some, h1]
  by_cases c6 : k < 6
  · have e : (n != 1) = false := by rw [k3 c6]; rfl
    rw [decide_eq_true c6, cond_true, e]; rfl
  · rw [decide_eq_false c6]; rfl
theorem r9Drop_eq (h : RightC c) (v : VOK (layC c) w.length w) (p : Int) : ∃ n u, y79 ⟨c⟩ p w = some (n, u) ∧
    ((1 ≤ knd (layC c).at_1 c.Pages w p ∧ knd (layC c).at_1 c.Pages w p ≤ 6 ∧ RunLen (layC c).at_1 c.Pages w p n ∧ Ran (layC c).at_1 c.Pages w u p n 0) ∨
     (¬ (1 ≤ knd (layC c).at_1 c.Pages w p ∧ knd (layC c).at_1 c.Pages w p ≤ 6) ∧ n = 0 ∧ u = w)) := by
  have hpg := h.pages
  have g : GeoK (layC c).at_1 c.Pages w.length := v.geoK
  unfold y79
  rw [r9Kind_eq h v, Option.bind_some]
  by_cases a : knd (layC c).at_1 c.Pages w p < 1
  · rw [decide_eq_true a, cond_true]
    exact ⟨_, _, rfl, .inr ⟨by omega, rfl, rfl⟩⟩
  rw [decide_eq_false a, cond_false]
  by_cases b : knd (layC c).at_1 c.Pages w p > 6
  · rw [decide_eq_true b, cond_true]
    exact ⟨_, _, rfl, .inr ⟨by omega, rfl, rfl⟩⟩
  rw [decide_eq_false b, cond_false]
  have hp : 0 ≤ p ∧ p < c.Pages := by
    by_cases h : 0 ≤ p ∧ p < c.Pages
    · exact h
    · rw [knd_out h] at a; omega
  rw [r9set_eq h v hp, Option.bind_some]
  have r1 : Ran (layC c).at_1 c.Pages w (setP (layC c).at_1 c.Pages w p 0 0) p 1 0 := by
    have := (Ran.zero (layC c).at_1 c.Pages w p 0).step g (by omega) (by omega) (by omega)
    simpa using this
  obtain ⟨⟨n, u⟩, h1, h2, h3⟩ := loopO_ind (step := fun s : Int × List Int => y8s ⟨c⟩ p (knd (layC c).at_1 c.Pages w p) s.1 s.2)
    (I := fun s => 1 ≤ s.1 ∧ p + s.1 ≤ c.Pages ∧ (knd (layC c).at_1 c.Pages w p ≠ 6 → s.1 = 1) ∧ (∀ i, 1 ≤ i → i < s.1 → knd (layC c).at_1 c.Pages w (p + i) = 7) ∧ Ran (layC c).at_1 c.Pages w s.2 p s.1 0) (μ := fun s => (c.Pages - s.1).toNat)
    (fun r => RunLen (layC c).at_1 c.Pages w p r.1 ∧ Ran (layC c).at_1 c.Pages w r.2 p r.1 0) (by
      rintro ⟨i, u⟩ ⟨i1, i2, i3, i4, i5⟩
      simp only at i1 i2 i3 i4 i5 ⊢
      simp only [y8s]
      have vu : VOK (layC c) u.length u := ⟨v.lay, rfl, by rw [i5.len]; exact v.all⟩
      by_cases c6 : knd (layC c).at_1 c.Pages w p = 6
      · have e6 : (knd (layC c).at_1 c.Pages w p == 6) = true := by rw [c6]; rfl
        have hk : knd (layC c).at_1 c.Pages u (p + i) = knd (layC c).at_1 c.Pages w (p + i) := by rw [i5.knd g hp.1 i2, if_neg (by omega)]
        rw [e6, cond_true, wrap_id (x := p + i) (by omega) (by omega), r9Kind_eq h vu, Option.bind_some, hk]
        by_cases d : knd (layC c).at_1 c.Pages w (p + i) = 7
        · have e7 : (knd (layC c).at_1 c.Pages w (p + i) == 7) = true := by rw [d]; rfl
          have hin : p + i < c.Pages := by
            by_cases h : p + i < c.Pages
            · exact h
            · rw [knd_out (by omega)] at d; omega
          rw [e7, cond_true, r9set_eq h vu (by omega), Option.bind_some, wrap_id (by omega) (by omega)]
          refine .inl ⟨_, rfl, ⟨by simp only; omega, by simp only; omega, fun x => (x c6).elim, fun j j0 j1 => ?_, i5.step g hp.1 (by omega) hin⟩, by simp only; omega⟩
          by_cases f : j = i
          · rw [f]; exact d
          · exact i4 j j0 (by simp only at j1; omega)
        · have e7 : (knd (layC c).at_1 c.Pages w (p + i) == 7) = false := by simpa using d
          rw [e7, cond_false]
          exact .inr ⟨_, rfl, ⟨i1, i2, i4, fun _ => d, i3⟩, i5⟩
      · have e6 : (knd (layC c).at_1 c.Pages w p == 6) = false := by simpa using c6
        rw [e6, cond_false]
        exact .inr ⟨_, rfl, ⟨i1, i2, i4, fun x => (c6 x).elim, i3⟩, i5⟩) (1, setP (layC c).at_1 c.Pages w p 0 0) ⟨by omega, by simp only; omega, fun _ => rfl, fun j j0 j1 => by simp only at j1; omega, r1⟩
  refine ⟨n, u, h1, .inl ⟨by omega, by omega, h2, h3⟩⟩
end
end Go.Rx
end

section
namespace Go.Rx
def kw (L : ya) (w : List Int) (p : Int) : Int := wd w (L.at_1 + p)
def cw (L : ya) (w : List Int) (p : Int) : Int := wd w (L.at_2 + p)
def bw (L : ya) (w : List Int) (p : Int) : Int := wd w (L.at_3 + p)
structure ClsOK (L : ya) (w inn : List Int) (p c : Int) (m : Nat) : Prop where
  cls : 0 ≤ c ∧ c < 5
  kind : kw L w p = c + 1
  bits : bw L w p = m
  lt : m < 2 ^ (slotsC c).toNat
  left : cw L w p = slotsC c - popN m (slotsC c).toNat
  used : cw L w p < slotsC c
  linked : wd inn p = if cw L w p = 0 then 0 else 100 * c + cw L w p
structure FreeOK (L : ya) (w inn : List Int) (p : Int) : Prop where
  kind : kw L w p = 0
  bits : bw L w p = 0
  left : cw L w p = 0
  linked : wd inn p = 0
def PgOK (L : ya) (w inn : List Int) (p : Int) : Prop := FreeOK L w inn p ∨ ∃ c m, ClsOK L w inn p c m
structure Inv11 (L : ya) (w inn : List Int) (ls : Int → Int → List Int) : Prop where
  rep : RepW L.at_4 L.c.Pages w inn ls
  pg : ∀ p, 0 ≤ p → p < L.c.Pages → PgOK L w inn p
theorem LayOK.geo11 {L : ya} (h : LayOK L) : 1 ≤ L.at_1 ∧ L.at_2 = L.at_1 + L.c.Pages ∧ L.at_3 = L.at_1 + 2 * L.c.Pages ∧ L.at_4 = L.at_1 + 3 * L.c.Pages ∧ L.at_4 + 2 * L.c.Pages + 62 ≤ L.at_10 ∧ L.at_11 = L.at_10 + L.c.Pages * 32 ∧ L.at_11 ≤ 1048576 := by
  have := h.geo; have := h.geoK; have := h.a2; have := h.a3; have := h.a4; have := h.a5; have := h.a6; have := h.a7; have := h.a8b; have := h.a9; have := h.a10; have := h.a11; have := h.bin; have := h.pages; have := h.big
  refine ⟨by omega, by omega, by omega, by omega, by omega, by omega, by omega⟩
theorem slots_pow {c : Int} (h : 0 ≤ c ∧ c < 5) : (slotsC c).toNat ≤ 32 ∧ 2 ≤ slotsC c ∧ ((slotsC c).toNat : Int) = slotsC c := by
  have := slotsC_le c
  have e : c = 0 ∨ c = 1 ∨ c = 2 ∨ c = 3 ∨ c = 4 := by omega
  rcases e with rfl | rfl | rfl | rfl | rfl <;> simp [slotsC]
theorem bits_lt {m k : Nat} (h : m < 2 ^ k) (hk : k ≤ 32) : m < 4294967296 := by
  have : (2 : Nat) ^ k ≤ 2 ^ 32 := Nat.pow_le_pow_right (by decide) hk
  omega
section
variable {L : ya} {w u w1 inn : List Int} {ls : Int → Int → List Int} {nb pg : Int}
theorem Lst.congr {h : Int} {xs : List Int} (l : Lst nb pg w h xs) (hnb : 1 ≤ nb) (hpg : 0 ≤ pg) (hh : nb + 2 * pg ≤ h ∧ h < nb + 2 * pg + 62) (e : ∀ b, nb ≤ b → b < nb + 2 * pg + 62 → wd u b = wd w b) : Lst nb pg u h xs := by
  refine ⟨(e h (by omega) hh.2).trans l.head, l.inn, fun i hi => ?_, fun i hi => ?_, l.nd⟩
  · have := l.inn _ (getD_mem hi)
    rw [e _ (by omega) (by omega)]; exact l.next i hi
  · have := l.inn _ (getD_mem hi)
    rw [e _ (by omega) (by omega)]; exact l.prev i hi
theorem RepW.congr (r : RepW nb pg w inn ls) (hnb : 1 ≤ nb) (hpg : 0 ≤ pg) (e : ∀ b, nb ≤ b → b < nb + 2 * pg + 62 → wd u b = wd w b) : RepW nb pg u inn ls :=
  ⟨fun c f h => (r.lst c f h).congr hnb hpg (hd_in h) e, r.len, r.mem, r.some, fun p h0 h1 hz => by
    have := r.none p h0 h1 hz
    rw [e _ (by omega) (by omega), e _ (by omega) (by omega)]; exact this⟩
theorem RepW.unlinked {c f p : Int} (r : RepW nb pg w inn ls) (g : GeoA nb pg w.length) (h : isL c f) (hp : p ∈ ls c f) :
    ∃ ls', RepW nb pg (unlinkW nb pg w (hdI (nb + 2 * pg) c f) p) (inn.set p.toNat 0) ls' ∧ (unlinkW nb pg w (hdI (nb + 2 * pg) c f) p).length = w.length ∧ ∀ b, 0 ≤ b → (b < nb ∨ nb + 2 * pg + 62 ≤ b) → wd (unlinkW nb pg w (hdI (nb + 2 * pg) c f) p) b = wd w b := by
  obtain ⟨i, hi, e⟩ := mem_getD hp
  obtain ⟨n1, n2, z1, z2⟩ := unlink_ok (g.geo h) (r.lst _ _ h) hi
  have hr := r.unlink g h hi n1 n2 z1 z2
  rw [e] at hr n2
  have hb := hd_in (hb := nb + 2 * pg) h
  have g1 := g.base; have g2 := g.pages
  exact ⟨_, hr, n2.len, fun b hb0 hb1 => n2.off b hb0 (by omega) (fun y hy => by have := (r.lst c f h).inn y hy; omega)⟩
theorem RepW.linked {c f p : Int} (r : RepW nb pg w inn ls) (g : GeoA nb pg w.length) (h : isL c f) (hp : 0 ≤ p ∧ p < pg) (h0 : wd inn p = 0) :
    ∃ ls', RepW nb pg (linkW nb pg w (hdI (nb + 2 * pg) c f) p) (inn.set p.toNat (100 * c + f)) ls' ∧ (linkW nb pg w (hdI (nb + 2 * pg) c f) p).length = w.length ∧ ∀ b, 0 ≤ b → (b < nb ∨ nb + 2 * pg + 62 ≤ b) → wd (linkW nb pg w (hdI (nb + 2 * pg) c f) p) b = wd w b := by
  have hn : p ∉ ls c f := fun m => by
    have := ((r.mem _ _ h _).1 m).2
    have := h.1; have := h.2; omega
  obtain ⟨n1, n2⟩ := link_ok (g.geo h) (r.lst _ _ h) hp hn
  have hb := hd_in (hb := nb + 2 * pg) h
  have g1 := g.base; have g2 := g.pages
  exact ⟨_, r.link g h hp h0 n1 n2, n2.len, fun b hb0 hb1 => n2.off b hb0 (by omega) (fun y hy => by
    rcases List.mem_cons.1 hy with e | hy
    · omega
    · have := (r.lst c f h).inn y hy; omega)⟩
def unl (L : ya) (ls : Int → Int → List Int) (w : List Int) (p c n : Int) : List Int :=
  if isL c n ∧ p ∈ ls c n then unlinkW L.at_4 L.c.Pages w (hdI (L.at_4 + 2 * L.c.Pages) c n) p else w
def turnW (L : ya) (w : List Int) (p c b n : Int) : List Int :=
  if n = slotsC c then setP L.at_1 L.c.Pages w p 0 0
  else if isL c n then linkW L.at_4 L.c.Pages ((w.set (L.at_3 + p).toNat b).set (L.at_2 + p).toNat n) (hdI (L.at_4 + 2 * L.c.Pages) c n) p
  else (w.set (L.at_3 + p).toNat b).set (L.at_2 + p).toNat n
theorem GeoL {L : ya} (h : LayOK L) {n : Nat} (hn : L.at_11 ≤ n) : GeoA L.at_4 L.c.Pages n := by
  have := h.geo11; have := h.pages
  exact ⟨by omega, h.pages, by omega⟩
theorem GeoKL {L : ya} (h : LayOK L) {w : List Int} (hn : L.at_11 ≤ (w.length : Int)) : GeoK L.at_1 L.c.Pages w.length :=
  VOK.geoK (nw := w.length) ⟨h, rfl, hn⟩
theorem unl_rep (h : LayOK L) (hn : L.at_11 ≤ (w.length : Int)) (r : RepW L.at_4 L.c.Pages w inn ls) {p c n : Int} (hp : 0 ≤ p ∧ p < L.c.Pages) (hc : 0 ≤ c ∧ c < 5) (hk : 0 ≤ n ∧ n ≤ slotsC c) (hl : wd inn p = if n = 0 then 0 else 100 * c + n) :
    ∃ ls', RepW L.at_4 L.c.Pages (unl L ls w p c n) (inn.set p.toNat 0) ls' ∧ (unl L ls w p c n).length = w.length ∧ ∀ b, 0 ≤ b → (b < L.at_4 ∨ L.at_4 + 2 * L.c.Pages + 62 ≤ b) → wd (unl L ls w p c n) b = wd w b := by
  unfold unl
  by_cases z : n = 0
  · rw [if_neg (fun x => by have := x.1.2; omega)]
    rw [if_pos z] at hl
    refine ⟨ls, ?_, rfl, fun _ _ _ => rfl⟩
    have e : inn.set p.toNat 0 = inn := wd_ext (by simp) (fun b hb => by
      have := r.len
      rw [wd_set (by omega) hb]
      split
      · rename_i e; rw [e, hl]
      · rfl)
    rw [e]; exact r
  · rw [if_neg z] at hl
    have hL : isL c n := ⟨hc, by omega, hk.2⟩
    have hm : p ∈ ls c n := (r.mem c n hL p).2 ⟨hp, hl⟩
    rw [if_pos ⟨hL, hm⟩]
    exact r.unlinked (GeoL h hn) hL hm
theorem linkW_len' (nb pg : Int) (w : List Int) (h p : Int) : (linkW nb pg w h p).length = w.length := by
  unfold linkW
  by_cases e : wd w h = 0 <;> simp [e]
theorem turnW_len (L : ya) (w : List Int) (p c b n : Int) : (turnW L w p c b n).length = w.length := by
  unfold turnW
  split
  · exact setP_len ..
  · split
    · rw [linkW_len']; simp
    · simp
theorem turn_inv {ls1 : Int → Int → List Int} (h : LayOK L) (hn : L.at_11 ≤ (w.length : Int)) {p c n : Int} {m : Nat} (hp : 0 ≤ p ∧ p < L.c.Pages) (i : ∀ q, 0 ≤ q → q < L.c.Pages → q ≠ p → PgOK L w inn q)
    (r1 : RepW L.at_4 L.c.Pages w1 (inn.set p.toNat 0) ls1) (hlen : w1.length = w.length) (hoff : ∀ b, 0 ≤ b → (b < L.at_4 ∨ L.at_4 + 2 * L.c.Pages + 62 ≤ b) → wd w1 b = wd w b) (hc : 0 ≤ c ∧ c < 5) (hk : kw L w p = c + 1)
    (hm : m < 2 ^ (slotsC c).toNat) (hw : n = slotsC c - popN m (slotsC c).toNat) : ∃ inn' ls', Inv11 L (turnW L w1 p c m n) inn' ls' := by
  have g := h.geo11; have hpg := h.pages
  have hil : (inn.length : Int) = L.c.Pages := by have := r1.len; simpa using this
  obtain ⟨s1, s2, s3⟩ := slots_pow hc
  have hpop := popN_le m (slotsC c).toNat
  have hinn : ∀ x q, 0 ≤ q → wd ((inn.set p.toNat 0).set p.toNat x) q = if q = p then x else wd inn q := fun x q hq => by
    rw [wd_set (by rw [List.length_set]; omega) hq, wd_set (by omega) hq]; split <;> rfl
  have hinn0 : ∀ q, 0 ≤ q → wd (inn.set p.toNat 0) q = if q = p then 0 else wd inn q := fun q hq => wd_set (by omega) hq
  have other : ∀ (v inn' : List Int), (∀ q, 0 ≤ q → q < L.c.Pages → q ≠ p → kw L v q = kw L w q ∧ cw L v q = cw L w q ∧ bw L v q = bw L w q ∧ wd inn' q = wd inn q) → ∀ q, 0 ≤ q → q < L.c.Pages → q ≠ p → PgOK L v inn' q := by
    intro v inn' e q h0 h1 hq
    obtain ⟨e1, e2, e3, e4⟩ := e q h0 h1 hq
    rcases i q h0 h1 hq with f | ⟨c', m', f⟩
    · exact .inl ⟨e1.trans f.kind, e3.trans f.bits, e2.trans f.left, e4.trans f.linked⟩
    · exact .inr ⟨c', m', f.cls, e1.trans f.kind, e3.trans f.bits, f.lt, e2.trans f.left, by rw [e2]; exact f.used, by rw [e4, e2]; exact f.linked⟩
  unfold turnW
  by_cases hs : n = slotsC c
  · rw [if_pos hs]
    have gk : GeoK L.at_1 L.c.Pages w1.length := GeoKL h (by omega)
    have hw1 : ∀ b, 0 ≤ b → wd (setP L.at_1 L.c.Pages w1 p 0 0) b = if b = L.at_1 + p ∨ b = L.at_1 + L.c.Pages + p ∨ b = L.at_1 + 2 * L.c.Pages + p then 0 else wd w1 b := fun b hb => by
      rw [setP_wd gk hp hb]
      repeat' split
      all_goals first | rfl | omega
    refine ⟨inn.set p.toNat 0, ls1, r1.congr (by omega) (by omega) (fun b h0 h1 => by rw [hw1 b (by omega), if_neg (by omega)]), fun q h0 h1 => ?_⟩
    by_cases e : q = p
    · subst e
      exact .inl ⟨by unfold kw; rw [hw1 _ (by omega), if_pos (.inl rfl)], by unfold bw; rw [hw1 _ (by omega), if_pos (.inr (.inr (by omega)))], by unfold cw; rw [hw1 _ (by omega), if_pos (.inr (.inl (by omega)))], by rw [hinn0 _ h0, if_pos rfl]⟩
    · refine other _ _ (fun q h0 h1 e => ⟨?_, ?_, ?_, by rw [hinn0 q h0, if_neg e]⟩) q h0 h1 e
      · unfold kw; rw [hw1 _ (by omega), if_neg (by omega), hoff _ (by omega) (.inl (by omega))]
      · unfold cw; rw [hw1 _ (by omega), if_neg (by omega), hoff _ (by omega) (.inl (by omega))]
      · unfold bw; rw [hw1 _ (by omega), if_neg (by omega), hoff _ (by omega) (.inl (by omega))]
  · rw [if_neg hs]
    generalize hv : (w1.set (L.at_3 + p).toNat (m : Int)).set (L.at_2 + p).toNat n = v
    have hvl : v.length = w.length := by rw [← hv]; simp [hlen]
    have hvw : ∀ b, 0 ≤ b → wd v b = if b = L.at_2 + p then n else if b = L.at_3 + p then (m : Int) else wd w1 b := fun b hb => by
      rw [← hv, wd_set (by rw [List.length_set]; omega) hb, wd_set (by omega) hb]
    have rv : RepW L.at_4 L.c.Pages v (inn.set p.toNat 0) ls1 := r1.congr (by omega) (by omega) (fun b h0 h1 => by rw [hvw b (by omega), if_neg (by omega), if_neg (by omega)])
    have fin : ∀ (x : List Int) (inn' : List Int) (ls' : Int → Int → List Int), RepW L.at_4 L.c.Pages x inn' ls' → (∀ b, 0 ≤ b → (b < L.at_4 ∨ L.at_4 + 2 * L.c.Pages + 62 ≤ b) → wd x b = wd v b) → (∀ q, 0 ≤ q → wd inn' q = if q = p then (if n = 0 then 0 else 100 * c + n) else wd inn q) → ∃ inn' ls', Inv11 L x inn' ls' := by
      intro x inn' ls' rx hx hi
      refine ⟨inn', ls', rx, fun q h0 h1 => ?_⟩
      by_cases e : q = p
      · subst e
        have e1 : cw L x q = n := by unfold cw; rw [hx _ (by omega) (.inl (by omega)), hvw _ (by omega), if_pos rfl]
        refine .inr ⟨c, m, hc, ?_, ?_, hm, by rw [e1]; exact hw, by rw [e1]; omega, by rw [hi q h0, if_pos rfl, e1]⟩
        · unfold kw; rw [hx _ (by omega) (.inl (by omega)), hvw _ (by omega), if_neg (by omega), if_neg (by omega), hoff _ (by omega) (.inl (by omega))]; exact hk
        · unfold bw; rw [hx _ (by omega) (.inl (by omega)), hvw _ (by omega), if_neg (by omega), if_pos rfl]
      · refine other _ _ (fun q h0 h1 e => ⟨?_, ?_, ?_, by rw [hi q h0, if_neg e]⟩) q h0 h1 e
        · unfold kw; rw [hx _ (by omega) (.inl (by omega)), hvw _ (by omega), if_neg (by omega), if_neg (by omega), hoff _ (by omega) (.inl (by omega))]
        · unfold cw; rw [hx _ (by omega) (.inl (by omega)), hvw _ (by omega), if_neg (by omega), if_neg (by omega), hoff _ (by omega) (.inl (by omega))]
        · unfold bw; rw [hx _ (by omega) (.inl (by omega)), hvw _ (by omega), if_neg (by omega), if_neg (by omega), hoff _ (by omega) (.inl (by omega))]
    by_cases hL : isL c n
    · rw [if_pos hL]
      obtain ⟨ls', a1, _, a3⟩ := rv.linked (GeoL h (by omega)) hL hp (by rw [hinn0 p hp.1, if_pos rfl])
      have := hL.2
      exact fin _ _ _ a1 a3 (fun q hq => by rw [hinn _ q hq, if_neg (show ¬ n = 0 by omega)])
    · rw [if_neg hL]
      have hz : n = 0 := by
        refine Classical.byContradiction fun hz => hL ⟨hc, ?_, ?_⟩ <;> omega
      exact fin _ _ _ rv (fun _ _ _ => rfl) (fun q hq => by rw [hinn0 q hq, if_pos hz])
end
end Go.Rx
end

section
namespace Go.Rx
def exRh (cfg : Cfg) (cx : Cx) : Code → Env → Heap → (Env → Heap → Prop) → Prop
  | .ret, env, H, K => K env H
  | .skip, env, H, K => K env H
  | .region id ops draw, env, H, K => ex cfg cx (.region id ops draw) env H (fun _ env H => K env H)
  | .seq a b, env, H, K => match a with
    | .region id ops draw => ex cfg cx (.region id ops draw) env H (fun _ env H => exRh cfg cx b env H K)
    | _ => False
  | _, _, _, _ => False
def exDh (cfg : Cfg) (cx : Cx) (sd : FuncId → Option Spec) (fin : Env → Heap → Prop) (ops : List Oper) (c1 : Code) (env : Env) (H : Heap) : Prop :=
  match ops[ops.length - 1]? with
  | some o => match o.guard with
    | none => match o.op with
      | .defer c => match c.callee with
        | .value f => bif c.args.toList.isEmpty then exOps cfg cx.nt none qm0 (fun _ => true) none ops (List.range (ops.length - 1)) env H fun env H => match ev env f with
          | .fn g caps => match sd g with
            | some s => exRh cfg cx c1 (updO cx.nt env o.dst (.ext undef)) H fun env H => callC s caps H none fun _ H => fin env H
            | none => False
          | _ => False
          else False
        | _ => False
      | _ => False
    | _ => False
  | none => False
def exSH (cfg : Cfg) (cx : Cx) (sd : FuncId → Option Spec) (fin : Env → Heap → Prop) : Code → Env → Heap → Prop
  | .seq a b, env, H => bif isDefR a then exDh cfg cx sd fin (opsOf a) b env H else
      ex cfg cx a env H fun e env H => match e with
        | .normal => exSH cfg cx sd fin b env H
        | .ret => fin env H
        | .exit _ => False
  | _, _, _ => False
def exFH (cfg : Cfg) (sd : FuncId → Option Spec) (fn : Func) (args : List V) (H : Heap) (K : V → Heap → Prop) : Prop :=
  match fn.body with
  | some c => exSH cfg (cxOf fn args H) sd (retK cfg fn H.length K .normal) c (argEnv args) H
  | none => False
variable {cfg : Cfg} {ρ : List Value} {F : Nat → List Nat} {H : Heap} {w : World}
theorem exReg_sound (ok : CfgOK cfg) (hsig : ∀ g s, cfg.sigs g = some s → SpecOK cfg.P cfg.elT g s) {cx : Cx} {ds : List Deferred} (id : Nat) (ops : Array Oper) (draw : Bool) (K : Env → Heap → Prop) (env : Env) (H : Heap) (ρ : List Value) (F : Nat → List Nat) (a : Act) (w : World) (h : ex cfg cx (.region id ops draw) env H (fun _ env H => K env H)) (hs : St cfg cx.nt ds ρ F env H a w) :
    (Code.region id ops draw).wp cfg.P (fun e a' w' => e = .normal ∧ ∃ ρ' F' env' H', St cfg cx.nt ds ρ' F' env' H' a' w' ∧ (Le ρ ρ' ∧ Fr H F w H' F' w') ∧ K env' H') a w := by
  cases draw with
  | false =>
    have h : exOps cfg cx.nt none qm0 (fun _ => true) none ops.toList (List.range ops.toList.length) env H K := h
    rw [Array.length_toList] at h
    exact wp_region (exOps_wpOps ok hsig _ ρ F H w env a h hs (fun ρ' F' H' w' env' a' h1 h2 h3 => ⟨rfl, ρ', F', env', H', h2, ⟨h3.le, h3.fr⟩, h1⟩))
  | true =>
    have hd := hs.sat.drew
    have hst : St cfg cx.nt ds ρ F env H a w.drew := ⟨hs.env, hs.size, hs.defers, hd⟩
    have h : (match cfg.planT id with
     | some (p, kd) => bif planOkT ops p && lateOk ops (kdQ kd).late then exOpsT cfg cx.nt (some (lkOf (kdB kd))) (kdQ kd) (early (kdQ kd) ops.toList) (some H) ops.toList p env H K else False
     | none => match cfg.plan id with
      | some (plan, kd) => bif planOk ops plan && lateOk ops (kdQ kd).late then exOps cfg cx.nt (some (lkOf (kdB kd))) (kdQ kd) (early (kdQ kd) ops.toList) (some H) ops.toList plan env H K else False
      | none => False) := h
    split at h
    · rename_i p kd hpl
      have hc := cond_elim h
      have hc1 := hc.1
      simp only [planOkT, Bool.and_eq_true] at hc1
      obtain ⟨hc1, hlt⟩ := hc1
      obtain ⟨⟨hsel, hle⟩, hgo⟩ := hc1
      refine wp_region_any ok.mixed (wpAny_of_G (S := SD (kdQ kd) ops (lkOf (kdB kd)) H F w.drew) _ _ _ _ ?_)
      exact wpAnyG_le (Nat.le_of_ble_eq_true hle) (exOps_tree (nt := cx.nt) (f := lkOf (kdB kd)) (q := kdQ kd) (ops := ops) ok hlt hsig (lkOK_lkOf (kdB kd)) hsel (Q := fun e a' w' => e = .normal ∧ ∃ ρ' F' env' H', St cfg cx.nt ds ρ' F' env' H' a' w' ∧ (Le ρ ρ' ∧ Fr H F w H' F' w') ∧ K env' H') (fun _ _ _ h => by have h := h.1; simp at h; try cases h) hd
        (fun ρ' F' H' w' env' a' h1 h2 h3 => ⟨rfl, ρ', F', env', H', h2, ⟨h3.le, Fr.drew.trans h3.fr⟩, h1⟩) p false (Array.replicate ops.size false) ρ F H w.drew env a hgo (by simp) (closed_start ops) hc.2 hst (.refl hd) (fun _ => Kept.refl))
    · split at h
      rotate_left
      · exact h.elim
      rename_i plan kd hpl
      have hc := cond_elim h
      have hc1 := hc.1
      simp only [planOk, Bool.and_eq_true] at hc1
      obtain ⟨hc1, hlt⟩ := hc1
      obtain ⟨⟨hsel, hlen⟩, hgo⟩ := hc1
      have hlen : plan.length = ops.size := by simpa using hlen
      refine wp_region_any ok.mixed (wpAny_of_G (S := SD (kdQ kd) ops (lkOf (kdB kd)) H F w.drew) _ _ _ _ ?_)
      rw [← hlen]
      have := exOps_drawn (nt := cx.nt) (f := lkOf (kdB kd)) (q := kdQ kd) (ops := ops) ok hlt hsig (lkOK_lkOf (kdB kd)) hsel (Q := fun e a' w' => e = .normal ∧ ∃ ρ' F' env' H', St cfg cx.nt ds ρ' F' env' H' a' w' ∧ (Le ρ ρ' ∧ Fr H F w H' F' w') ∧ K env' H') (fun _ _ _ h => by have h := h.1; simp at h; try cases h) hd plan (Array.replicate ops.size false) ρ F H w.drew env a hgo (by simp) (closed_start ops) hc.2 hst (.refl hd) (fun _ => Kept.refl)
        (fun ρ' F' H' w' env' a' h1 h2 h3 => ⟨rfl, ρ', F', env', H', h2, ⟨h3.le, Fr.drew.trans h3.fr⟩, h1⟩)
      rw [← hlen] at this
      exact this
theorem exRh_sound (ok : CfgOK cfg) (hsig : ∀ g s, cfg.sigs g = some s → SpecOK cfg.P cfg.elT g s) {cx : Cx} {ds : List Deferred} : ∀ (c : Code) (K : Env → Heap → Prop) (env : Env) (H : Heap) (ρ : List Value) (F : Nat → List Nat) (a : Act) (w : World),
    exRh cfg cx c env H K → St cfg cx.nt ds ρ F env H a w → c.wp cfg.P (fun e a' w' => (e = .normal ∨ e = .ret) ∧ ∃ ρ' F' env' H', St cfg cx.nt ds ρ' F' env' H' a' w' ∧ (Le ρ ρ' ∧ Fr H F w H' F' w') ∧ K env' H') a w := by
  intro c
  induction c with
  | ret => intro K env H ρ F a w h hs; exact wp_ret ⟨.inr rfl, ρ, F, env, H, hs, ⟨Le.refl _, .refl⟩, h⟩
  | skip => intro K env H ρ F a w h hs; exact wp_skip ⟨.inl rfl, ρ, F, env, H, hs, ⟨Le.refl _, .refl⟩, h⟩
  | region id ops draw =>
    intro K env H ρ F a w h hs
    refine wp_mono (exReg_sound ok hsig id ops draw K env H ρ F a w h hs) (fun e a' w' hq => ?_)
    exact ⟨.inl hq.1, hq.2⟩
  | seq x y ihx ihy =>
    intro K env H ρ F a w h hs
    cases x with
    | region id ops draw =>
      refine wp_seq (wp_mono (exReg_sound ok hsig id ops draw _ env H ρ F a w h hs) (fun e a' w' hq => ?_))
      obtain ⟨rfl, ρ', F', env', H', h2, h3, h1⟩ := hq
      refine wp_mono (ihy K env' H' ρ' F' a' w' h1 h2) (fun e a2 w2 hq => ?_)
      obtain ⟨q1, ρ2, F2, env2, H2, q2, q3, q4⟩ := hq
      exact ⟨q1, ρ2, F2, env2, H2, q2, ⟨h3.1.trans q3.1, h3.2.trans q3.2⟩, q4⟩
    | _ => exact h.elim
  | _ => intro K env H ρ F a w h hs; exact h.elim
theorem exSH_sound (ok : CfgOK cfg) (hsig : ∀ g s, cfg.sigs g = some s → SpecOK cfg.P cfg.elT g s) {sd : FuncId → Option Spec} (hsd : ∀ g s, sd g = some s → SpecDOK cfg.P cfg.elT g s)
    {fn : Func} {args : List V} {H0 : Heap} {K : V → Heap → Prop} {ρ0 : List Value} {F0 : Nat → List Nat} {w0 : World} (hsat0 : Sat cfg.elT ρ0 F0 H0 w0) :
    ∀ (c : Code) (env : Env) (H : Heap) (ρ : List Value) (F : Nat → List Nat) (a : Act) (w : World), exSH cfg (cxOf fn args H0) sd (retK cfg fn H0.length K .normal) c env H → St0 cfg (cxOf fn args H0) [] ρ0 F0 H0 w0 ρ F env H a w →
      c.wp cfg.P (bodyPostD cfg.P fn fun e w' => ∃ v x ρ' F' H', e = .returned x ∧ K v H' ∧ Rel ρ' v x ∧ Le ρ0 ρ' ∧ Sat cfg.elT ρ' F' H' w' ∧ Fr H0 F0 w0 H' F' w') a w := by
  have hp : (cxOf fn args H0).pins ≤ ρ0.length := by rw [hsat0.len]; exact Nat.le_refl _
  have fin0 : ∀ (ρ : List Value) (F : Nat → List Nat) (env : Env) (H : Heap) (a : Act) (w : World) (ds : List Deferred), St0 cfg (cxOf fn args H0) ds ρ0 F0 H0 w0 ρ F env H a w → retK cfg fn H0.length K .normal env H →
      Leaves cfg.P fn a.tmps (fun e w' => ∃ v x ρ' F' H', e = .returned x ∧ K v H' ∧ Rel ρ' v x ∧ Le ρ0 ρ' ∧ Sat cfg.elT ρ' F' H' w' ∧ Fr H0 F0 w0 H' F' w') [] .returning w := by
    intro ρ F env H a w ds hs hr
    obtain ⟨v, hv, hrest⟩ := ret_sound hsat0 hs hr
    exact ⟨v, hv, hrest⟩
  intro c
  induction c with
  | seq x y ihx ihy =>
    intro env H ρ F a w h hs
    simp only [exSH] at h
    cases hd : isDefR x with
    | false =>
      rw [hd] at h
      simp only [cond_false] at h
      refine wp_seq (wp_mono (y40 ok hsig hp x _ env H ρ F a w h hs) (fun e a' w' hq => ?_))
      cases e with
      | normal => obtain ⟨ρ', F', env', H', h1, h2⟩ := hq; exact ihy env' H' ρ' F' a' w' h2 h1
      | ret =>
        obtain ⟨ρ', F', env', H', h1, h2⟩ := hq
        show Leaves cfg.P fn a'.tmps _ a'.defers .returning w'
        rw [h1.st.defers]
        exact fin0 ρ' F' env' H' a' w' [] h1 h2
      | exit i => obtain ⟨ρ', F', env', H', h1, h2⟩ := hq; exact h2.elim
      | goto l => exact hq.elim
      | panic ch => exact hq.elim
      | outgrown => exact hq.elim
    | true =>
      rw [hd] at h
      simp only [cond_true] at h
      cases x with
      | region id ops draw =>
        cases draw with
        | true => cases hd
        | false =>
          simp only [opsOf, exDh] at h
          split at h
          · rename_i o ho
            split at h
            · rename_i hg
              split at h
              · rename_i c hop
                obtain ⟨callee, cargs, cts⟩ := c
                split at h
                · rename_i f hcal
                  simp only at hcal
                  subst hcal
                  have hcd := cond_elim h
                  have hargs := list0 hcd.1
                  simp only at hargs
                  subst hargs
                  have h := hcd.2
                  have hsz : ops.toList.length = (ops.size - 1) + 1 := by
                    rw [Array.length_toList]
                    have := (List.getElem?_eq_some_iff.1 ho).1
                    rw [Array.length_toList] at this
                    omega
                  have ho' : ops[ops.size - 1]? = some o := by rw [← Array.getElem?_toList, ← Array.length_toList]; exact ho
                  rw [Array.length_toList] at h
                  refine wp_seq (wp_region ?_)
                  rw [show ops.size = (ops.size - 1) + 1 by rw [Array.length_toList] at hsz; exact hsz, List.range_succ]
                  have pre : ∀ (Q : Exit → Act → World → Prop) (l : List Nat) (j : Nat) (a : Act) (w : World), wpOps cfg.P ops (fun e a w => match e with | .normal => wpOps cfg.P ops Q [j] a w | e => Q e a w) l a w → (¬ ∃ a w, Q .outgrown a w) → wpOps cfg.P ops Q (l ++ [j]) a w := by
                    intro Q l j
                    induction l with
                    | nil => intro a w h _; exact h
                    | cons i r ih =>
                      intro a w h hno
                      rw [List.cons_append, wpOps_cons]
                      rw [wpOps_cons] at h
                      unfold wpOp at h ⊢
                      split
                      · rename_i hn; rw [hn] at h; exact ih _ _ h hno
                      · rename_i oi hoi
                        rw [hoi] at h
                        simp only at h ⊢
                        split
                        · rename_i hwt
                          rw [if_pos hwt] at h
                          refine .inl ?_
                          have h := h.resolve_right (fun ⟨_, a', w', hq⟩ => hno ⟨a', w', hq⟩)
                          unfold Oper.wp at h ⊢
                          generalize (execOp a.eval oi).run cfg.P w = r at h ⊢
                          cases r with
                          | ok n w' =>
                            cases n <;> simp only [Oper.upon] at h ⊢
                            all_goals first
                              | exact h.elim
                              | exact ih _ _ h hno
                              | exact Calls.mono h (fun e w'' he => by cases e <;> first | exact ih _ _ he hno | exact he | (obtain ⟨a', w₀, hq⟩ := he; exact ⟨a', w₀, hq⟩))
                              | exact Rows.mono h (fun _ _ he => ih _ _ he hno)
                          | halt x w' => cases x <;> simp only [Oper.upon] at h ⊢ <;> exact h
                        · rename_i hwt
                          rw [if_neg hwt] at h
                          exact ih _ _ h hno
                  refine pre _ _ _ _ _ ?_ ?_
                  rotate_left
                  · rintro ⟨a', w', v, x, ρ', F', H', he, _⟩
                    cases he
                  refine exOps_wpOps (ds := []) ok hsig _ ρ F H w env a h hs.st (fun ρ1 F1 H1 w1 env1 a1 h1 h2 h3 => ?_)
                  simp only [wpOps, ho']
                  have hwt : Region.wanted o (yielded ops a1.tmps) = true := by unfold Region.wanted; rw [hg]
                  rw [if_pos hwt]
                  refine .inl ?_
                  split at h1
                  · rename_i g caps hgf
                    split at h1
                    · rename_i s hsg
                      have hfd := REnv.ev h2.env f
                      rw [hgf] at hfd
                      have hfd := hfd.den (by simp)
                      simp only [V.den] at hfd
                      split at hfd
                      · rename_i cs hcs
                        injection hfd with hfd
                        obtain ⟨⟨fg, f1, f2, f3⟩, hspec⟩ := hsd g s hsg
                        have hrun : (execOp a1.eval o).run cfg.P w1 = .ok (.defer { target := .fn (.func g) cs.toArray, args := #[] }) w1 := by
                          obtain ⟨dst, op, type, pos, after, guard⟩ := o
                          simp only at hop
                          subst hop
                          simp only [execOp, resolve, ← hfd, Deferred.ofValue, Sem.run_bind, Sem.run_pure, Result.andThen_ok]
                          simp
                        unfold Oper.wp
                        rw [hrun, Oper.upon_defer]
                        have hst2 : St cfg (cxOf fn args H0).nt [{ target := .fn (.func g) cs.toArray, args := #[] }] ρ1 F1 (updO (cxOf fn args H0).nt env1 o.dst (.ext undef)) H1 (({ a1 with defers := { target := .fn (.func g) cs.toArray, args := #[] } :: a1.defers } : Act).put o.dst undef) w1 := by
                          have := (h2.put (lk := none) (.refl h2.sat) (v := .ext undef) (x := undef) (.inr rfl) o.dst)
                          refine ⟨?_, ?_, ?_, h2.sat⟩
                          · have e := this.env
                            cases hdst : o.dst with
                            | none => rw [hdst] at e; exact e
                            | some d => rw [hdst] at e; exact e
                          · have e := this.size
                            cases hdst : o.dst with
                            | none => rw [hdst] at e; exact e
                            | some d => rw [hdst] at e; exact e
                          · cases hdst : o.dst with
                            | none => show _ :: a1.defers = _; rw [h2.defers]
                            | some d => show _ :: a1.defers = _; rw [h2.defers]
                        show (y.wp cfg.P _ _ w1)
                        refine wp_mono (exRh_sound ok hsig y _ _ H1 ρ1 F1 _ w1 h1 hst2) (fun e a2 w2 hq => ?_)
                        obtain ⟨q1, ρ2, F2, env2, H2, q2, q3, q4⟩ := hq
                        have hcs2 : denL ρ2 caps = some cs := denL_le q3.1 _ _ hcs
                        have hend : Leaves cfg.P fn a2.tmps (fun e w' => ∃ v x ρ' F' H', e = .returned x ∧ K v H' ∧ Rel ρ' v x ∧ Le ρ0 ρ' ∧ Sat cfg.elT ρ' F' H' w' ∧ Fr H0 F0 w0 H' F' w') a2.defers .returning w2 := by
                          rw [q2.defers]
                          refine leaves_cons (by simp) (f := g) (args := cs.toArray) ?_ ?_
                          · simp only [invoke, run_callFunc f1 f2 f3]
                            simp
                          · have hcall := callC_gen (cfg := cfg) (lk := none) (fun _ h => by cases h) (s := s) (vals := cs) (w := w2) (fun R => CallsD cfg.P g cs.toArray .returning w2 fun e u' w' => u' = .returning ∧ R e w')
                              (fun R R' hr hm => hr.mono fun e u' w' ⟨h1, h2⟩ => ⟨h1, hm e w' h2⟩) (fun args H K htr ρ F hd hs => hspec args H K htr ρ F w2 cs hd hs) q4 hcs2 q2.sat
                            refine hcall.mono ?_
                            rintro e u' w' ⟨rfl, v, x, ρ3, F3, H3, rfl, g1, g2, g3⟩
                            show Leaves cfg.P fn a2.tmps _ [] .returning w'
                            have hst3 : St cfg (cxOf fn args H0).nt [{ target := .fn (.func g) cs.toArray, args := #[] }] ρ3 F3 env2 H3 a2 w' := ⟨fun t => (q2.env t).le g3.le, q2.size, q2.defers, g3.sat⟩
                            refine fin0 ρ3 F3 env2 H3 a2 w' _ ⟨hst3, ((hs.fr.trans h3.fr).trans q3.2).trans g3.fr, fun i hi => ?_⟩ g1
                            have hpi := hs.pins i hi
                            have hil : i < ρ0.length := by omega
                            rw [List.getElem?_eq_getElem hil] at hpi ⊢
                            exact g3.le _ _ (q3.1 _ _ (h3.le _ _ hpi))
                        rcases q1 with rfl | rfl
                        · exact hend
                        · exact hend
                      · cases hfd
                    · exact h1.elim
                  · exact h1.elim
                · exact h.elim
              · exact h.elim
            · exact h.elim
          · exact h.elim
      | _ => cases hd
  | _ => intro env H ρ F a w h hs; exact h.elim
theorem spec_of_exFH (ok : CfgOK cfg) (hsig : ∀ g s, cfg.sigs g = some s → SpecOK cfg.P cfg.elT g s) {sd : FuncId → Option Spec} (hsd : ∀ g s, sd g = some s → SpecDOK cfg.P cfg.elT g s)
    {g : FuncId} {fn : Func} {s : Spec} (hg : cfg.P.funcs[g]? = some fn) (hname : (fn.name == "runtime.NumGoroutine") = false) (hb : fn.body.isNone = false)
    (h : ∀ (args : List V) (H : Heap) (K : V → Heap → Prop), s.tr args H K → exFH cfg sd fn args H K) : SpecOK cfg.P cfg.elT g s := by
  refine ⟨⟨fn, hg, hname, hb⟩, fun args H K htr ρ F w vals hden hsat => ?_⟩
  have hex := h args H K htr
  cases hc : fn.body with
  | none => rw [hc] at hb; cases hb
  | some c =>
    unfold exFH at hex
    rw [hc] at hex
    have hlen := denL_len hden
    have hst : St cfg (cxOf fn args H).nt [] ρ F (argEnv args) H { tmps := vals.toArray ++ Array.replicate (fn.ntmps - vals.toArray.size) undef, defers := [] } w :=
      ⟨argEnv_rel hden _, by simp [cxOf, hlen], rfl, hsat⟩
    exact calls_of_wp_defers hg hc (exSH_sound ok hsig hsd hsat c _ H ρ F _ w hex ⟨hst, Fr.refl, fun _ _ => rfl⟩)
def aRest (l : List V) (k : List V → Prop) : Prop := k l
def sdC (g : FuncId) (s : Spec) : FuncId → Option Spec := fun g' => bif Nat.beq g' g then some s else none
theorem sdC_ok {P : Program} {elT : ET} {g : FuncId} {s : Spec} (h : SpecDOK P elT g s) : ∀ g' s', sdC g s g' = some s' → SpecDOK P elT g' s' := by
  intro g' s' e
  unfold sdC at e
  cases hb : Nat.beq g' g with
  | false => rw [hb] at e; cases e
  | true =>
    rw [hb] at e
    obtain rfl := Nat.eq_of_beq_eq_true hb
    injection e with e
    subst e
    exact h
end Go.Rx
end
