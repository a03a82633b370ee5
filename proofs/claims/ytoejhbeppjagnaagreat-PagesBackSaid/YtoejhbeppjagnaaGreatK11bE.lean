/- What the row's text of this claim stands on, part 5: the symbolic executor, contracts of the program's functions, plain facts. No condition. -/
import Derived.Test.YtoejhbeppjagnaaGreatK11bD
noncomputable section
namespace Go.Rx
open Go.Proofs
set_option maxRecDepth 100000
set_option maxHeartbeats 4000000
theorem yew {cs : List V} {k : ya → List V → Prop} (h : yq (List.take 23 cs) fun x => aRest (List.drop 23 cs) fun r => k x r) : ∃ x r, cs = yc x ++ r ∧ k x r := by
  obtain ⟨x, e, h⟩ := y4o h
  exact ⟨x, _, by rw [← e, List.take_append_drop], h⟩
instance (cs : List V) (k : ya → List V → Prop) : Des (yq (List.take 23 cs) fun x => aRest (List.drop 23 cs) fun r => k x r) (∃ x r, cs = yc x ++ r ∧ k x r) := ⟨yew⟩
def y8c (m_ : Y3) (args : List V) (H : Heap) (K : V → Heap → Prop) : Prop :=
  aC args fun a0 r => aN r <| aAgg a0 fun c0 => aC c0 fun a0_0 r => aPtr 0 a0_0 <| yq (List.take 23 r) fun x_l => aRest (List.drop 23 r) fun r => aC r fun a0_24 r => aInt a0_24 fun x_p => aC r fun a0_25 r => aInt a0_25 fun x_c => aN r <| aC H fun b0 r => aC r fun b1 r => aN r <| bView 1 b0 fun ws cur xs => bRow 0 true b1 fun (l : List Int) => ws = l ∧ xs.length ≤ 2 ∧ So (m_ ws.length cur x_l x_p x_c) fun x => K (vi x) [.pk 0 [ws, cur] xs [.row 1], .row 0 l true]
def y5g (m_ : Y3) : Spec := ⟨y8c m_, (true : Bool)⟩
def y8m (m_ : Y3) (args : List V) (H : Heap) (K : V → Heap → Prop) : Prop :=
  aC args fun a0 r => aN r <| aAgg a0 fun c0 => aC c0 fun a0_0 r => aPtr 0 a0_0 <| yq (List.take 23 r) fun x_l => aRest (List.drop 23 r) fun r => aC r fun a0_24 r => aInt a0_24 fun x_p => aC r fun a0_25 r => aInt a0_25 fun x_c => aN r <| aC H fun b0 r => aC r fun b1 r => aN r <| bView 1 b0 fun ws cur xs => bRow 0 true b1 fun (l : List Int) => ws = l ∧ xs.length ≤ 2 ∧ So (m_ ws.length cur x_l x_p x_c) fun x => K (vi x) [.pk 0 [ws, cur] xs [.row 1], .row 0 l true]
def y5c (m_ : Y3) : Spec := ⟨y8m m_, (true : Bool)⟩
abbrev Y7 := Nat → (List Int) → Int → Int → Int → Int → Int → Int → Int → Int → Int → Int → Int → Int → Int → Int → Int → Int → Int → Int → Int → Int → Int → Int → Int → Int → Int → Int → Option (List Int)
def y4e (m_ : Y7) (args : List V) (H : Heap) (K : V → Heap → Prop) : Prop :=
  aC args fun a0 r => aC r fun a1 r => aN r <| aPtr 0 a0 <| aPtr 1 a1 <| aC H fun b0 r => aC r fun b1 r => aC r fun b2 r => aC r fun b3 r => aN r <| bCells b0 fun U c0 => aC c0 fun d0_0 r => aPtr 2 d0_0 <| aC r fun d0_1 r => aInt d0_1 fun x_l_c_Workers => aC r fun d0_2 r => aInt d0_2 fun x_l_c_CPUs => aC r fun d0_3 r => aInt d0_3 fun x_l_c_Pages => aC r fun d0_4 r => aInt d0_4 fun x_l_c_Stripes => aC r fun d0_5 r => aInt d0_5 fun x_l_c_Tries => aC r fun d0_6 r => aInt d0_6 fun x_l_c_Wait => aC r fun d0_7 r => aInt d0_7 fun x_l_c_Clock => aC r fun d0_8 r => aInt d0_8 fun x_l_c_Private => aC r fun d0_9 r => aInt d0_9 fun x_l_c_Cache => aC r fun d0_10 r => aInt d0_10 fun x_l_c_Bin => aC r fun d0_11 r => aInt d0_11 fun x_l_c_Batch => aC r fun d0_12 r => aInt d0_12 fun x_l_at_0 => aC r fun d0_13 r => aInt d0_13 fun x_l_at_1 => aC r fun d0_14 r => aInt d0_14 fun x_l_at_2 => aC r fun d0_15 r => aInt d0_15 fun x_l_at_3 => aC r fun d0_16 r => aInt d0_16 fun x_l_at_4 => aC r fun d0_17 r => aInt d0_17 fun x_l_at_5 => aC r fun d0_18 r => aInt d0_18 fun x_l_at_6 => aC r fun d0_19 r => aInt d0_19 fun x_l_at_7 => aC r fun d0_20 r => aInt d0_20 fun x_l_at_8 => aC r fun d0_21 r => aInt d0_21 fun x_l_at_9 => aC r fun d0_22 r => aInt d0_22 fun x_l_at_10 => aC r fun d0_23 r => aInt d0_23 fun x_l_at_11 => aC r fun d0_24 r => aInt d0_24 fun x_p => aC r fun d0_25 r => aInt d0_25 fun x_c => aN r <| bCells b1 fun U2 c1 => aC c1 fun d1_0 r => aInt d1_0 fun left => aN r <| bView 3 b2 fun ws cur xs => bRow 0 true b3 fun (l : List Int) => ws = l ∧ xs.length ≤ 2 ∧ So (m_ ws.length cur x_l_c_Workers x_l_c_CPUs x_l_c_Pages x_l_c_Stripes x_l_c_Tries x_l_c_Wait x_l_c_Clock x_l_c_Private x_l_c_Cache x_l_c_Bin x_l_c_Batch x_l_at_0 x_l_at_1 x_l_at_2 x_l_at_3 x_l_at_4 x_l_at_5 x_l_at_6 x_l_at_7 x_l_at_8 x_l_at_9 x_l_at_10 x_l_at_11 x_p x_c left) fun x => K (.tup []) [.cells U [.ptr 2 0, vi x_l_c_Workers, vi x_l_c_CPUs, vi x_l_c_Pages, vi x_l_c_Stripes, vi x_l_c_Tries, vi x_l_c_Wait, vi x_l_c_Clock, vi x_l_c_Private, vi x_l_c_Cache, vi x_l_c_Bin, vi x_l_c_Batch, vi x_l_at_0, vi x_l_at_1, vi x_l_at_2, vi x_l_at_3, vi x_l_at_4, vi x_l_at_5, vi x_l_at_6, vi x_l_at_7, vi x_l_at_8, vi x_l_at_9, vi x_l_at_10, vi x_l_at_11, vi x_p, vi x_c], .cells U2 [vi left], .pk 0 [ws, x] xs [.row 3], .row 0 l true]
def y5r (m_ : Y7) : Spec := ⟨y4e m_, (true : Bool)⟩
abbrev Y15 := Nat → (List Int) → ya → Int → Int → Int → Int → Option (List Int)
def y97 (m_ : Y15) (args : List V) (H : Heap) (K : V → Heap → Prop) : Prop :=
  aC args fun a0 r => aC r fun a1 r => aC r fun a2 r => aN r <| aAgg a0 fun c0 => aC c0 fun a0_0 r => aPtr 0 a0_0 <| yq (List.take 23 r) fun x_l => aRest (List.drop 23 r) fun r => aC r fun a0_24 r => aInt a0_24 fun x_p => aC r fun a0_25 r => aInt a0_25 fun x_c => aN r <| aInt a1 fun bits => aInt a2 fun left => aC H fun b0 r => aC r fun b1 r => aN r <| bView 1 b0 fun ws cur xs => bRow 0 true b1 fun (l : List Int) => ws = l ∧ xs.length ≤ 2 ∧ So (m_ ws.length cur x_l x_p x_c bits left) fun x => K (.tup []) [.pk 0 [ws, x] xs [.row 1], .row 0 l true]
def y7y (m_ : Y15) : Spec := ⟨y97 m_, (true : Bool)⟩
abbrev Y25 := Nat → (List Int) → ya → Int → Option (ya × Int × Int × Bool × (List Int))
def y9f (m_ : Y25) (args : List V) (H : Heap) (K : V → Heap → Prop) : Prop :=
  aC args fun a0 r => aC r fun a1 r => aC r fun a2 r => aN r <| aPtr 0 a0 <| aAgg a1 fun c1 => yq c1 fun l2 => aInt a2 fun c => aC H fun b0 r => aC r fun b1 r => aN r <| bView 1 b0 fun ws cur xs => bRow 0 true b1 fun (l : List Int) => ws = l ∧ xs.length ≤ 2 ∧ So (m_ ws.length cur l2 c) fun x => br x.2.2.2.1 (K (.tup [.agg ([.ptr 0 0] ++ yc x.1 ++ [vi x.2.1, vi x.2.2.1]), vb true]) [.pk 0 [ws, x.2.2.2.2] xs [.row 1], .row 0 l true]) (K (.tup [.agg ([.ext (.pointer none)] ++ yc x.1 ++ [vi x.2.1, vi x.2.2.1]), vb false]) [.pk 0 [ws, x.2.2.2.2] xs [.row 1], .row 0 l true])
def yd8 (m_ : Y25) : Spec := ⟨y9f m_, (true : Bool)⟩
abbrev Y11 := Nat → (List Int) → ya → Int → Option (Int × Bool × (List Int))
def y8b (m_ : Y11) (args : List V) (H : Heap) (K : V → Heap → Prop) : Prop :=
  aC args fun a0 r => aC r fun a1 r => aC r fun a2 r => aN r <| aPtr 0 a0 <| aAgg a1 fun c1 => yq c1 fun l2 => aInt a2 fun c => aC H fun b0 r => aC r fun b1 r => aN r <| bView 1 b0 fun ws cur xs => bRow 0 true b1 fun (l : List Int) => ws = l ∧ xs.length ≤ 2 ∧ So (m_ ws.length cur l2 c) fun x => K (.tup [vi x.1, vb x.2.1]) [.pk 0 [ws, x.2.2] xs [.row 1], .row 0 l true]
def y58 (m_ : Y11) : Spec := ⟨y8b m_, (true : Bool)⟩
def y6g (m_ : Y19) (args : List V) (H : Heap) (K : V → Heap → Prop) : Prop :=
  aC args fun a0 r => aC r fun a1 r => aC r fun a2 r => aN r <| aPtr 0 a0 <| aAgg a1 fun c1 => yq c1 fun l2 => aInt a2 fun c => aC H fun b0 r => aC r fun b1 r => aN r <| bView 1 b0 fun ws cur xs => bRow 0 true b1 fun (l : List Int) => ws = l ∧ xs.length ≤ 2 ∧ So (m_ ws.length cur l2 c) fun x => K (vb x) [.pk 0 [ws, cur] xs [.row 1], .row 0 l true]
def yds (m_ : Y19) : Spec := ⟨y6g m_, (true : Bool)⟩
abbrev Y16 := Nat → (List Int) → ya → Int → Option (ya × Int × Int × Int × Bool)
def y69 (m_ : Y16) (args : List V) (H : Heap) (K : V → Heap → Prop) : Prop :=
  aC args fun a0 r => aC r fun a1 r => aC r fun a2 r => aN r <| aPtr 0 a0 <| aAgg a1 fun c1 => yq c1 fun l2 => aInt a2 fun a => aC H fun b0 r => aC r fun b1 r => aN r <| bView 1 b0 fun ws cur xs => bRow 0 true b1 fun (l : List Int) => ws = l ∧ xs.length ≤ 2 ∧ So (m_ ws.length cur l2 a) fun x => br x.2.2.2.2 (K (.tup [.agg ([.ptr 0 0] ++ yc x.1 ++ [vi x.2.1, vi x.2.2.1]), vi x.2.2.2.1, vb true]) [.pk 0 [ws, cur] xs [.row 1], .row 0 l true]) (K (.tup [.agg ([.ext (.pointer none)] ++ yc x.1 ++ [vi x.2.1, vi x.2.2.1]), vi x.2.2.2.1, vb false]) [.pk 0 [ws, cur] xs [.row 1], .row 0 l true])
def y6n (m_ : Y16) : Spec := ⟨y69 m_, (true : Bool)⟩
def y62 (m_ : Y10) (args : List V) (H : Heap) (K : V → Heap → Prop) : Prop :=
  aC args fun a0 r => aC r fun a1 r => aC r fun a2 r => aN r <| aPtr 0 a0 <| aAgg a1 fun c1 => yq c1 fun l2 => aInt a2 fun a => aC H fun b0 r => aC r fun b1 r => aN r <| bView 1 b0 fun ws cur xs => bRow 0 true b1 fun (l : List Int) => ws = l ∧ xs.length ≤ 2 ∧ So (m_ ws.length cur l2 a) fun x => K (vb x.1) [.pk 0 [ws, x.2] xs [.row 1], .row 0 l true]
def y8r (m_ : Y10) : Spec := ⟨y62 m_, (true : Bool)⟩
abbrev Y33 := Nat → (List Int) → ya → Int → Option (Int × Bool)
def y9p (m_ : Y33) (args : List V) (H : Heap) (K : V → Heap → Prop) : Prop :=
  aC args fun a0 r => aC r fun a1 r => aC r fun a2 r => aN r <| aPtr 0 a0 <| aAgg a1 fun c1 => yq c1 fun l2 => aInt a2 fun a => aC H fun b0 r => aC r fun b1 r => aN r <| bView 1 b0 fun ws cur xs => bRow 0 true b1 fun (l : List Int) => ws = l ∧ xs.length ≤ 2 ∧ So (m_ ws.length cur l2 a) fun x => K (.tup [vi x.1, vb x.2]) [.pk 0 [ws, cur] xs [.row 1], .row 0 l true]
def ybv (m_ : Y33) : Spec := ⟨y9p m_, (true : Bool)⟩
def y6f (m_ : Y0) (args : List V) (H : Heap) (K : V → Heap → Prop) : Prop :=
  aC args fun a0 r => aC r fun a1 r => aC r fun a2 r => aN r <| aPtr 0 a0 <| aAgg a1 fun c1 => yq c1 fun l2 => aInt a2 fun c => aC H fun b0 r => aC r fun b1 r => aN r <| bView 1 b0 fun ws cur xs => bRow 0 true b1 fun (l : List Int) => ws = l ∧ xs.length ≤ 2 ∧ So (m_ ws.length cur l2 c) fun x => K (vi x) [.pk 0 [ws, cur] xs [.row 1], .row 0 l true]
def y5k (m_ : Y0) : Spec := ⟨y6f m_, (true : Bool)⟩
def ye3 (yr : Y1) : Cfg := { cfgB with
  sigs := (sigC 31 (y48 yr) (sigC 63 rdS sigN)),
  plan := fun r => match r with | 1 => some (List.range 9, 16) | _ => none }
def yc3 (ym : Y1) : Cfg := { cfgB with
  sigs := (sigC 22 (y49 ym) (sigC 63 rdS sigN)),
  plan := fun r => match r with | 1 => some (List.range 9, 16) | _ => none }
def y8d (y1o : Y6) : Cfg := { cfgB with
  sigs := (sigC 100 (ya3 y1o) sigN) }
def yam (y0f : Y3) (y2d : Y6) (yl : Y4) (y2c : Y29) (y1q : Y7) (ym yr : Y1) : Cfg := { cfgB with
  sigs := (sigC 58 (y5g y0f) (sigC 97 (yck y2d) (sigC 20 (y46 yl) (sigC 98 (yac y2c) (sigC 99 (y5r y1q) (sigC 22 (y49 ym) (sigC 96 wrS (sigC 31 (y48 yr) sigN)))))))),
  plan := fun r => match r with | 1 => some (List.range 11, 24189255811088) | 2 => some (List.range 5, 0) | 5 => some ([0, 1, 2, 3, 4, 5, 7, 6, 8], 19791209299984) | 6 => some ([0, 1, 2, 3, 4, 5, 7, 6, 8], 19791209299984) | _ => none }
def ydm (yu : Y4) (y1f : Y0) (y2m : Y3) (y1p : Y6) (yr : Y1) (yl : Y4) : Cfg := { cfgB with
  sigs := (sigC 19 (y44 yu) (sigC 52 (y9t y1f) (sigC 94 (ybo y2m) (sigC 95 (yct y1p) (sigC 31 (y48 yr) (sigC 20 (y46 yl) (sigC 96 wrS sigN))))))) }
def yay (y1g : Y25) (y0b : Y3) (yl : Y4) (y3a y1v : Y14) (y0f : Y3) (y0z : Y15) (y2h : Y1) (yu : Y4) : Cfg := { cfgB with
  sigs := (sigC 53 (yd8 y1g) (sigC 55 (y5c y0b) (sigC 20 (y46 yl) (sigC 54 (ydi y3a) (sigC 57 (yc9 y1v) (sigC 58 (y5g y0f) (sigC 56 (y7y y0z) (sigC 59 (yeb y2h) (sigC 19 (y44 yu) sigN))))))))),
  plan := fun r => match r with | 5 => some ([0, 1, 3, 5, 2, 4, 6, 7, 8], 16) | _ => none }
def ydj (y1f : Y0) : Cfg := { cfgB with
  sigs := (sigC 52 (y9t y1f) sigN) }
def ydq (y2g : Y39) (ye : Y0) (yu : Y4) (y0b : Y3) (y1t : Y46) : Cfg := { cfgB with
  sigs := (sigC 26 (ybl y2g) (sigC 62 (y3l ye) (sigC 19 (y44 yu) (sigC 55 (y5c y0b) (sigC 27 (ybi y1t) sigN))))),
  plan := fun r => match r with | 6 => some ([0, 1, 2, 3, 4, 5, 6, 7, 8, 9, 11, 12, 13, 10, 14, 15, 16], 16) | 8 => some (List.range 7, 144) | _ => none,
  planT := fun r => match r with | 4 => some ((chainT [0, 1, 2, 3, 4, 5] (.alt (chainT [6, 7, 8, 9, 10] .fin) (chainT [9, 6, 7, 8, 10] .fin))), 8208) | _ => none,
  flag := fun d => Nat.beq d 6 || Nat.beq d 12 }
def ycu (y0t : Y16) (y0b : Y3) (y1y : Y14) (y0f : Y3) (y0z : Y15) : Cfg := { cfgB with
  sigs := (sigC 64 (y6n y0t) (sigC 55 (y5c y0b) (sigC 65 (ydf y1y) (sigC 58 (y5g y0f) (sigC 56 (y7y y0z) sigN))))),
  plan := fun r => match r with | 3 => some ([0, 1, 3, 5, 2, 4, 6, 7, 8], 16) | _ => none }
def ycb (y0t : Y16) : Cfg := { cfgB with
  sigs := (sigC 64 (y6n y0t) sigN) }
def y2r (yh : Y22) (yu : Y4) (ye : Y0) (yl : Y4) (ym : Y1) (y0r : Y14) : Cfg := { cfgB with
  sigs := (sigC 17 (y3h yh) (sigC 19 (y44 yu) (sigC 62 (y3l ye) (sigC 20 (y46 yl) (sigC 22 (y49 ym) (sigC 63 rdS (sigC 21 (yc5 y0r) sigN))))))),
  keep := fun r => match r with | 3 => some [(0, none), (2, none), (4, none), (7, none), (11, none), (12, none)] | _ => none,
  plan := fun r => match r with | 6 => some ([0, 1, 3, 4, 5, 8, 2, 6, 7, 9, 10, 11, 12, 13], 16) | _ => none }
theorem yh6 (yr : Y1) (ws cur : List Int) (xs : List Value) (x_l : ya) (x_p x_c : Int) (K : V → Heap → Prop) : (exF (ye3 yr) Tryz.f58 [.agg ([.ptr 0 0] ++ yc x_l ++ [vi x_p, vi x_c])] (hV ws cur xs) K) = (
    So (yr x_l x_p) (fun (y0 : Int) => ((ws = ws) ∧ ((xs.length ≤ 2) ∧ (Req (inR y0 ws.length) (K (vi (rd cur y0)) (hV ws cur xs))))))) := by kernel_rfl
theorem yh3 (ym : Y1) (ws cur : List Int) (xs : List Value) (x_l : ya) (x_p x_c : Int) (K : V → Heap → Prop) : (exF (yc3 ym) Tryz.f55 [.agg ([.ptr 0 0] ++ yc x_l ++ [vi x_p, vi x_c])] (hV ws cur xs) K) = (
    So (ym x_l x_p) (fun (y0 : Int) => ((ws = ws) ∧ ((xs.length ≤ 2) ∧ (Req (inR y0 ws.length) (K (vi (rd cur y0)) (hV ws cur xs))))))) := by kernel_rfl
theorem yd3 (y1o : Y6) (ws cur : List Int) (xs : List Value) (x_l_c_Workers x_l_c_CPUs : Int) (x_l_c_Pages x_l_c_Stripes : Int) (x_l_c_Tries x_l_c_Wait : Int) (x_l_c_Clock x_l_c_Private : Int) (x_l_c_Cache x_l_c_Bin : Int) (x_l_c_Batch x_l_at_0 : Int) (x_l_at_1 x_l_at_2 : Int) (x_l_at_3 x_l_at_4 : Int) (x_l_at_5 x_l_at_6 : Int) (x_l_at_7 x_l_at_8 : Int) (x_l_at_9 x_l_at_10 : Int) (x_l_at_11 x_p : Int) (x_c left : Int) (U U2 : TypeId) (K : V → Heap → Prop) : (exF (y8d y1o) Tryz.f99 [.ptr 0 0, .ptr 1 0] [.cells U [.ptr 2 0, vi x_l_c_Workers, vi x_l_c_CPUs, vi x_l_c_Pages, vi x_l_c_Stripes, vi x_l_c_Tries, vi x_l_c_Wait, vi x_l_c_Clock, vi x_l_c_Private, vi x_l_c_Cache, vi x_l_c_Bin, vi x_l_c_Batch, vi x_l_at_0, vi x_l_at_1, vi x_l_at_2, vi x_l_at_3, vi x_l_at_4, vi x_l_at_5, vi x_l_at_6, vi x_l_at_7, vi x_l_at_8, vi x_l_at_9, vi x_l_at_10, vi x_l_at_11, vi x_p, vi x_c], .cells U2 [vi left], .pk 0 [ws, cur] xs [.row 3], .row 0 ws true] K) = (
    ((ws = ws) ∧ ((xs.length ≤ 2) ∧ (So (y1o ws.length cur (ya.mk (yb.mk x_l_c_Workers x_l_c_CPUs x_l_c_Pages x_l_c_Stripes x_l_c_Tries x_l_c_Wait x_l_c_Clock x_l_c_Private x_l_c_Cache x_l_c_Bin x_l_c_Batch) x_l_at_0 x_l_at_1 x_l_at_2 x_l_at_3 x_l_at_4 x_l_at_5 x_l_at_6 x_l_at_7 x_l_at_8 x_l_at_9 x_l_at_10 x_l_at_11) x_p x_c left) (fun (y0 : Bool × List Int) => (K (.tup []) [.cells U [.ptr 2 0, vi x_l_c_Workers, vi x_l_c_CPUs, vi x_l_c_Pages, vi x_l_c_Stripes, vi x_l_c_Tries, vi x_l_c_Wait, vi x_l_c_Clock, vi x_l_c_Private, vi x_l_c_Cache, vi x_l_c_Bin, vi x_l_c_Batch, vi x_l_at_0, vi x_l_at_1, vi x_l_at_2, vi x_l_at_3, vi x_l_at_4, vi x_l_at_5, vi x_l_at_6, vi x_l_at_7, vi x_l_at_8, vi x_l_at_9, vi x_l_at_10, vi x_l_at_11, vi x_p, vi x_c], .cells U2 [vi left], .pk 0 [ws, y0.2] xs [.row 3], .row 0 ws true])))))) := by kernel_rfl
theorem yiv (y0f : Y3) (y2d : Y6) (yl : Y4) (y2c : Y29) (y1q : Y7) (ym yr : Y1) (ws cur : List Int) (xs : List Value) (x_l : ya) (x_p x_c : Int) (bits left : Int) (K : V → Heap → Prop) : (exFH (yam y0f y2d yl y2c y1q ym yr) (sdC 99 (y5r y1q)) Tryz.f56 [.agg ([.ptr 0 0] ++ yc x_l ++ [vi x_p, vi x_c]), vi bits, vi left] (hV ws cur xs) K) = (
    ((ws = ws) ∧ ((xs.length ≤ 2) ∧ (So (y0f ws.length cur x_l x_p x_c) (fun (y0 : Int) => ((ws = ws) ∧ ((xs.length ≤ 2) ∧ (So (y2d ws.length cur x_l x_p x_c y0) (fun (y1 : Bool × List Int) => (So (yl x_c) (fun (y2 : Int) => (br (left == y2) ((ws = ws) ∧ ((xs.length ≤ 2) ∧ (So (y2c ws.length y1.2 x_l x_p) (fun (y3 : Int × List Int) => (K (.tup []) (hV ws y3.2 xs)))))) (So (ym x_l x_p) (fun (y4 : Int) => ((ws = ws) ∧ ((xs.length ≤ 2) ∧ (Req (inR y4 ws.length) (So (yr x_l x_p) (fun (y5 : Int) => ((ws = ws) ∧ ((xs.length ≤ 2) ∧ (Req (inR y5 ws.length) ((ws = ws) ∧ ((xs.length ≤ 2) ∧ (So (y1q ws.length (wr (wr y1.2 y4 bits) y5 left) x_l.c.Workers x_l.c.CPUs x_l.c.Pages x_l.c.Stripes x_l.c.Tries x_l.c.Wait x_l.c.Clock x_l.c.Private x_l.c.Cache x_l.c.Bin x_l.c.Batch x_l.at_0 x_l.at_1 x_l.at_2 x_l.at_3 x_l.at_4 x_l.at_5 x_l.at_6 x_l.at_7 x_l.at_8 x_l.at_9 x_l.at_10 x_l.at_11 x_p x_c left) (fun (y6 : List Int) => (K (.tup []) (hV ws y6 xs)))))))))))))))))))))))))))) := by kernel_rfl
theorem yg6 (yu : Y4) (y1f : Y0) (y2m : Y3) (y1p : Y6) (yr : Y1) (yl : Y4) (ws cur : List Int) (xs : List Value) (l2 : ya) (c : Int) (K : V → Heap → Prop) : (exF (ydm yu y1f y2m y1p yr yl) Tryz.f53 [.ptr 0 0, .agg (yc l2), vi c] (hV ws cur xs) K) = (
    So (yu c) (fun (y0 : Int) => (br (y0 == 0) (K (.tup [.agg [.ext (Go.Value.pointer Option.none), vi 0, vi 0, vi 0, vi 0, vi 0, vi 0, vi 0, vi 0, vi 0, vi 0, vi 0, vi 0, vi 0, vi 0, vi 0, vi 0, vi 0, vi 0, vi 0, vi 0, vi 0, vi 0, vi 0, vi 0, vi 0], vb false]) (hV ws cur xs)) ((ws = ws) ∧ ((xs.length ≤ 2) ∧ (So (y1f ws.length cur l2 c) (fun (y1 : Int) => (br (decide (y1 ≥ 0)) (K (.tup [.agg ([.ptr 0 0] ++ yc l2 ++ [vi y1, vi c]), vb true]) (hV ws cur xs)) ((ws = ws) ∧ ((xs.length ≤ 2) ∧ (So (y2m ws.length cur l2 1 1) (fun (y2 : Int) => ((ws = ws) ∧ ((xs.length ≤ 2) ∧ (So (y1p ws.length cur l2 y2 1 (IntKind.i64.wrap (c + 1))) (fun (y3 : Bool × List Int) => (br (!y3.1) (K (.tup [.agg [.ext (Go.Value.pointer Option.none), vi 0, vi 0, vi 0, vi 0, vi 0, vi 0, vi 0, vi 0, vi 0, vi 0, vi 0, vi 0, vi 0, vi 0, vi 0, vi 0, vi 0, vi 0, vi 0, vi 0, vi 0, vi 0, vi 0, vi 0, vi 0], vb false]) (hV ws y3.2 xs)) (So (yr l2 y2) (fun (y4 : Int) => (So (yl c) (fun (y5 : Int) => ((ws = ws) ∧ ((xs.length ≤ 2) ∧ (Req (inR y4 ws.length) (K (.tup [.agg ([.ptr 0 0] ++ yc l2 ++ [vi y2, vi c]), vb true]) (hV ws (wr y3.2 y4 y5) xs)))))))))))))))))))))))))) := by kernel_rfl
theorem ygm (y1g : Y25) (y0b : Y3) (yl : Y4) (y3a y1v : Y14) (y0f : Y3) (y0z : Y15) (y2h : Y1) (yu : Y4) (ws cur : List Int) (xs : List Value) (l2 : ya) (c : Int) (K : V → Heap → Prop) : (exF (yay y1g y0b yl y3a y1v y0f y0z y2h yu) Tryz.f25 [.ptr 0 0, .agg (yc l2), vi c] (hV ws cur xs) K) = (
    ((ws = ws) ∧ ((xs.length ≤ 2) ∧ (So (y1g ws.length cur l2 c) (fun (y0 : ya × Int × Int × Bool × List Int) => (br y0.2.2.2.1 ((ws = ws) ∧ ((xs.length ≤ 2) ∧ (So (y0b ws.length y0.2.2.2.2 y0.1 y0.2.1 y0.2.2.1) (fun (y1 : Int) => (So (yl c) (fun (y2 : Int) => (So (y3a y1 y2) (fun (y3 : Int) => ((ws = ws) ∧ ((xs.length ≤ 2) ∧ (So (y0b ws.length y0.2.2.2.2 y0.1 y0.2.1 y0.2.2.1) (fun (y4 : Int) => (So (y1v y4 y3) (fun (y5 : Int) => ((ws = ws) ∧ ((xs.length ≤ 2) ∧ (So (y0f ws.length y0.2.2.2.2 y0.1 y0.2.1 y0.2.2.1) (fun (y6 : Int) => ((ws = ws) ∧ ((xs.length ≤ 2) ∧ (So (y0z ws.length y0.2.2.2.2 y0.1 y0.2.1 y0.2.2.1 y5 (IntKind.i64.wrap (y6 - 1))) (fun (y7 : List Int) => (So (y2h l2 y0.2.1) (fun (y8 : Int) => (So (yu c) (fun (y9 : Int) => (K (.tup [vi (IntKind.i64.wrap (y8 + IntKind.i64.wrap (y3 * y9))), vb true]) (hV ws y7 xs)))))))))))))))))))))))))))) (K (.tup [vi 0, vb false]) (hV ws y0.2.2.2.2 xs)))))))) := by kernel_rfl
theorem yg2 (y1f : Y0) (ws cur : List Int) (xs : List Value) (l2 : ya) (c : Int) (K : V → Heap → Prop) : (exF (ydj y1f) Tryz.f24 [.ptr 0 0, .agg (yc l2), vi c] (hV ws cur xs) K) = (
    ((ws = ws) ∧ ((xs.length ≤ 2) ∧ (So (y1f ws.length cur l2 c) (fun (y0 : Int) => (K (vb (decide (y0 ≥ 0))) (hV ws cur xs))))))) := by kernel_rfl
theorem yf7 (y2g : Y39) (ye : Y0) (yu : Y4) (y0b : Y3) (y1t : Y46) (ws cur : List Int) (xs : List Value) (l2 : ya) (a : Int) (K : V → Heap → Prop) : (exF (ydq y2g ye yu y0b y1t) Tryz.f64 [.ptr 0 0, .agg (yc l2), vi a] (hV ws cur xs) K) = (
    So (y2g l2 a) (fun (y0 : Int × Int × Bool) => (br (!y0.2.2) (K (.tup [.agg [.ext (Go.Value.pointer Option.none), vi 0, vi 0, vi 0, vi 0, vi 0, vi 0, vi 0, vi 0, vi 0, vi 0, vi 0, vi 0, vi 0, vi 0, vi 0, vi 0, vi 0, vi 0, vi 0, vi 0, vi 0, vi 0, vi 0, vi 0, vi 0], vi 0, vb false]) (hV ws cur xs)) (((ws = ws) ∧ ((xs.length ≤ 2) ∧ (So (ye ws.length cur l2 y0.1) (fun (y1 : Int) => (So (yu (IntKind.i64.wrap (y1 - 1))) (fun (y2 : Int) => (br (y2 == 0) (K (.tup [.agg [.ext (Go.Value.pointer Option.none), vi 0, vi 0, vi 0, vi 0, vi 0, vi 0, vi 0, vi 0, vi 0, vi 0, vi 0, vi 0, vi 0, vi 0, vi 0, vi 0, vi 0, vi 0, vi 0, vi 0, vi 0, vi 0, vi 0, vi 0, vi 0], vi 0, vb false]) (hV ws cur xs)) (Req (!y2 == 0) (br (Int.tmod y0.2.1 y2 != 0) (K (.tup [.agg [.ext (Go.Value.pointer Option.none), vi 0, vi 0, vi 0, vi 0, vi 0, vi 0, vi 0, vi 0, vi 0, vi 0, vi 0, vi 0, vi 0, vi 0, vi 0, vi 0, vi 0, vi 0, vi 0, vi 0, vi 0, vi 0, vi 0, vi 0, vi 0], vi 0, vb false]) (hV ws cur xs)) (Req (!y2 == 0) ((ws = ws) ∧ ((xs.length ≤ 2) ∧ (So (y0b ws.length cur l2 y0.1 (IntKind.i64.wrap (y1 - 1))) (fun (y3 : Int) => (So (y1t y3 (IntKind.i64.wrap (Int.tdiv y0.2.1 y2))) (fun (y4 : Bool) => (br (!y4) (K (.tup [.agg [.ext (Go.Value.pointer Option.none), vi 0, vi 0, vi 0, vi 0, vi 0, vi 0, vi 0, vi 0, vi 0, vi 0, vi 0, vi 0, vi 0, vi 0, vi 0, vi 0, vi 0, vi 0, vi 0, vi 0, vi 0, vi 0, vi 0, vi 0, vi 0], vi 0, vb false]) (hV ws cur xs)) (Req (!y2 == 0) (K (.tup [.agg ([.ptr 0 0] ++ yc l2 ++ [vi y0.1, vi (IntKind.i64.wrap (y1 - 1))]), vi (IntKind.i64.wrap (Int.tdiv y0.2.1 y2)), vb true]) (hV ws cur xs)))))))))))))))))))) ∧ ((ws = ws) ∧ ((xs.length ≤ 2) ∧ (So (ye ws.length cur l2 y0.1) (fun (y5 : Int) => (So (yu (IntKind.i64.wrap (y5 - 1))) (fun (y6 : Int) => (br (y6 == 0) (K (.tup [.agg [.ext (Go.Value.pointer Option.none), vi 0, vi 0, vi 0, vi 0, vi 0, vi 0, vi 0, vi 0, vi 0, vi 0, vi 0, vi 0, vi 0, vi 0, vi 0, vi 0, vi 0, vi 0, vi 0, vi 0, vi 0, vi 0, vi 0, vi 0, vi 0], vi 0, vb false]) (hV ws cur xs)) (Req (!y6 == 0) (br (Int.tmod y0.2.1 y6 != 0) (K (.tup [.agg [.ext (Go.Value.pointer Option.none), vi 0, vi 0, vi 0, vi 0, vi 0, vi 0, vi 0, vi 0, vi 0, vi 0, vi 0, vi 0, vi 0, vi 0, vi 0, vi 0, vi 0, vi 0, vi 0, vi 0, vi 0, vi 0, vi 0, vi 0, vi 0], vi 0, vb false]) (hV ws cur xs)) (Req (!y6 == 0) ((ws = ws) ∧ ((xs.length ≤ 2) ∧ (So (y0b ws.length cur l2 y0.1 (IntKind.i64.wrap (y5 - 1))) (fun (y7 : Int) => (So (y1t y7 (IntKind.i64.wrap (Int.tdiv y0.2.1 y6))) (fun (y8 : Bool) => (br (!y8) (K (.tup [.agg [.ext (Go.Value.pointer Option.none), vi 0, vi 0, vi 0, vi 0, vi 0, vi 0, vi 0, vi 0, vi 0, vi 0, vi 0, vi 0, vi 0, vi 0, vi 0, vi 0, vi 0, vi 0, vi 0, vi 0, vi 0, vi 0, vi 0, vi 0, vi 0], vi 0, vb false]) (hV ws cur xs)) (Req (!y6 == 0) (K (.tup [.agg ([.ptr 0 0] ++ yc l2 ++ [vi y0.1, vi (IntKind.i64.wrap (y5 - 1))]), vi (IntKind.i64.wrap (Int.tdiv y0.2.1 y6)), vb true]) (hV ws cur xs)))))))))))))))))))))))) := by kernel_rfl
theorem yfv (y0t : Y16) (y0b : Y3) (y1y : Y14) (y0f : Y3) (y0z : Y15) (ws cur : List Int) (xs : List Value) (l2 : ya) (a : Int) (K : V → Heap → Prop) : (exF (ycu y0t y0b y1y y0f y0z) Tryz.f30 [.ptr 0 0, .agg (yc l2), vi a] (hV ws cur xs) K) = (
    ((ws = ws) ∧ ((xs.length ≤ 2) ∧ (So (y0t ws.length cur l2 a) (fun (y0 : ya × Int × Int × Int × Bool) => (br y0.2.2.2.2 ((ws = ws) ∧ ((xs.length ≤ 2) ∧ (So (y0b ws.length cur y0.1 y0.2.1 y0.2.2.1) (fun (y1 : Int) => (So (y1y y1 y0.2.2.2.1) (fun (y2 : Int) => ((ws = ws) ∧ ((xs.length ≤ 2) ∧ (So (y0f ws.length cur y0.1 y0.2.1 y0.2.2.1) (fun (y3 : Int) => ((ws = ws) ∧ ((xs.length ≤ 2) ∧ (So (y0z ws.length cur y0.1 y0.2.1 y0.2.2.1 y2 (IntKind.i64.wrap (y3 + 1))) (fun (y4 : List Int) => (K (vb true) (hV ws y4 xs)))))))))))))))) (K (vb false) (hV ws cur xs)))))))) := by kernel_rfl
theorem yer (y0t : Y16) (ws cur : List Int) (xs : List Value) (l2 : ya) (a : Int) (K : V → Heap → Prop) : (exF (ycb y0t) Tryz.f42 [.ptr 0 0, .agg (yc l2), vi a] (hV ws cur xs) K) = (
    ((ws = ws) ∧ ((xs.length ≤ 2) ∧ (So (y0t ws.length cur l2 a) (fun (y0 : ya × Int × Int × Int × Bool) => (br y0.2.2.2.2 (K (.tup [vi y0.2.2.1, vb true]) (hV ws cur xs)) (K (.tup [vi y0.2.2.1, vb false]) (hV ws cur xs)))))))) := by kernel_rfl
theorem yhr (yh : Y22) (yu : Y4) (ye : Y0) (yl : Y4) (ym : Y1) (y0r : Y14) (ws cur : List Int) (xs : List Value) (l2 : ya) (c many : Int) (t11 t12 : Int) (K : V → Heap → Prop) (J1 : Env → Heap → Prop) : (ex (y2r yh yu ye yl ym y0r) (⟨42, 2⟩ : Cx) (at_ (bodyOf Tryz.f29) [1, 1, 0, 1, 0, 0]) (mkEnv [(0, .ptr 0 0), (2, vi c), (4, .ptr 2 0), (7, vi many), (11, vi t11), (12, vi t12)]) [.pk 0 [ws, cur] xs [.row 1], .row 0 ws true, .cells 28 (yc l2)] (roundK (y2r yh yu ye yl ym y0r) (⟨42, 2⟩ : Cx) (at_ (bodyOf Tryz.f29) [1, 1, 0, 1, 0, 0]) (contK (y2r yh yu ye yl ym y0r) (⟨42, 2⟩ : Cx) (bodyOf Tryz.f29) [1, 1, 0, 1, 0] (retK (y2r yh yu ye yl ym y0r) Tryz.f29 2 K)) J1)) = (
    br (decide (t12 < t11)) (So (yu c) (fun (y0 : Int) => (br (decide (y0 > 0)) ((ws = ws) ∧ ((xs.length ≤ 2) ∧ (So (ye ws.length cur l2 t12) (fun (y1 : Int) => (br (y1 == IntKind.i64.wrap (c + 1)) (So (yl c) (fun (y2 : Int) => (So (ym l2 t12) (fun (y3 : Int) => ((ws = ws) ∧ ((xs.length ≤ 2) ∧ (Req (inR y3 ws.length) (So (yl c) (fun (y4 : Int) => (So (y0r (rd cur y3) y4) (fun (y5 : Int) => (J1 (mkEnv [(0, .ptr 0 0), (2, vi c), (4, .ptr 2 0), (7, vi (IntKind.i64.wrap (many + IntKind.i64.wrap (y2 - y5)))), (11, vi t11), (12, vi (IntKind.i64.wrap (t12 + 1)))]) [.pk 0 [ws, cur] xs [.row 1], .row 0 ws true, .cells 28 (yc l2)])))))))))))) (J1 (mkEnv [(0, .ptr 0 0), (2, vi c), (4, .ptr 2 0), (7, vi many), (11, vi t11), (12, vi (IntKind.i64.wrap (t12 + 1)))]) [.pk 0 [ws, cur] xs [.row 1], .row 0 ws true, .cells 28 (yc l2)])))))) (J1 (mkEnv [(0, .ptr 0 0), (2, vi c), (4, .ptr 2 0), (7, vi many), (11, vi t11), (12, vi (IntKind.i64.wrap (t12 + 1)))]) [.pk 0 [ws, cur] xs [.row 1], .row 0 ws true, .cells 28 (yc l2)])))) (K (vi many) (hV ws cur xs))) := by kernel_rfl
theorem yig (yh : Y22) (yu : Y4) (ye : Y0) (yl : Y4) (ym : Y1) (y0r : Y14) (ws cur : List Int) (xs : List Value) (l2 : ya) (c : Int) (K : V → Heap → Prop) : (exF (y2r yh yu ye yl ym y0r) Tryz.f29 [.ptr 0 0, .agg (yc l2), vi c] (hV ws cur xs) K) = (
    So (yh l2) (fun (y0 : yb) => (Loop (y2r yh yu ye yl ym y0r) (⟨42, 2⟩ : Cx) (at_ (bodyOf Tryz.f29) [1, 1, 0, 1, 0, 0]) (mkEnv [(0, .ptr 0 0), (2, vi c), (4, .ptr 2 0), (7, vi 0), (11, vi y0.Pages), (12, vi 0)]) [.pk 0 [ws, cur] xs [.row 1], .row 0 ws true, .cells 28 (yc l2)] (contK (y2r yh yu ye yl ym y0r) (⟨42, 2⟩ : Cx) (bodyOf Tryz.f29) [1, 1, 0, 1, 0] (retK (y2r yh yu ye yl ym y0r) Tryz.f29 2 K))))) := by kernel_rfl
def y0f (nw : Nat) (cur : List Int) (x_l : ya) (x_p x_c : Int) : Option Int :=
  ((yr x_l x_p).bind fun y0 => (bif (inR y0 nw) then some (rd cur y0) else none))
def y0b (nw : Nat) (cur : List Int) (x_l : ya) (x_p x_c : Int) : Option Int :=
  ((ym x_l x_p).bind fun y0 => (bif (inR y0 nw) then some (rd cur y0) else none))
def y1q (nw : Nat) (cur : List Int) (x_l_c_Workers x_l_c_CPUs : Int) (x_l_c_Pages x_l_c_Stripes : Int) (x_l_c_Tries x_l_c_Wait : Int) (x_l_c_Clock x_l_c_Private : Int) (x_l_c_Cache x_l_c_Bin : Int) (x_l_c_Batch x_l_at_0 : Int) (x_l_at_1 x_l_at_2 : Int) (x_l_at_3 x_l_at_4 : Int) (x_l_at_5 x_l_at_6 : Int) (x_l_at_7 x_l_at_8 : Int) (x_l_at_9 x_l_at_10 : Int) (x_l_at_11 x_p : Int) (x_c left : Int) : Option (List Int) :=
  ((y1o nw cur (ya.mk (yb.mk x_l_c_Workers x_l_c_CPUs x_l_c_Pages x_l_c_Stripes x_l_c_Tries x_l_c_Wait x_l_c_Clock x_l_c_Private x_l_c_Cache x_l_c_Bin x_l_c_Batch) x_l_at_0 x_l_at_1 x_l_at_2 x_l_at_3 x_l_at_4 x_l_at_5 x_l_at_6 x_l_at_7 x_l_at_8 x_l_at_9 x_l_at_10 x_l_at_11) x_p x_c left).bind fun y0 => some y0.2)
def y0z (nw : Nat) (cur : List Int) (x_l : ya) (x_p x_c : Int) (bits left : Int) : Option (List Int) :=
  ((y0f nw cur x_l x_p x_c).bind fun y0 => ((y2d nw cur x_l x_p x_c y0).bind fun y1 => ((yl x_c).bind fun y2 => (bif (left == y2) then ((y2c nw y1.2 x_l x_p).bind fun y3 => some y3.2) else ((ym x_l x_p).bind fun y4 => (bif (inR y4 nw) then ((yr x_l x_p).bind fun y5 => (bif (inR y5 nw) then ((y1q nw (wr (wr y1.2 y4 bits) y5 left) x_l.c.Workers x_l.c.CPUs x_l.c.Pages x_l.c.Stripes x_l.c.Tries x_l.c.Wait x_l.c.Clock x_l.c.Private x_l.c.Cache x_l.c.Bin x_l.c.Batch x_l.at_0 x_l.at_1 x_l.at_2 x_l.at_3 x_l.at_4 x_l.at_5 x_l.at_6 x_l.at_7 x_l.at_8 x_l.at_9 x_l.at_10 x_l.at_11 x_p x_c left).bind fun y6 => some y6) else none)) else none))))))
def y1g (nw : Nat) (cur : List Int) (l2 : ya) (c : Int) : Option (ya × Int × Int × Bool × (List Int)) :=
  ((yu c).bind fun y0 => (bif (y0 == 0) then some ((ya.mk (yb.mk 0 0 0 0 0 0 0 0 0 0 0) 0 0 0 0 0 0 0 0 0 0 0 0), 0, 0, false, cur) else ((y1f nw cur l2 c).bind fun y1 => (bif (decide (y1 ≥ 0)) then some (l2, y1, c, true, cur) else ((y2m nw cur l2 1 1).bind fun y2 => ((y1p nw cur l2 y2 1 (IntKind.i64.wrap (c + 1))).bind fun y3 => (bif (!y3.1) then some ((ya.mk (yb.mk 0 0 0 0 0 0 0 0 0 0 0) 0 0 0 0 0 0 0 0 0 0 0 0), 0, 0, false, y3.2) else ((yr l2 y2).bind fun y4 => ((yl c).bind fun y5 => (bif (inR y4 nw) then some (l2, y2, c, true, (wr y3.2 y4 y5)) else none))))))))))
def y01 (nw : Nat) (cur : List Int) (l2 : ya) (c : Int) : Option (Int × Bool × (List Int)) :=
  ((y1g nw cur l2 c).bind fun y0 => (bif y0.2.2.2.1 then ((y0b nw y0.2.2.2.2 y0.1 y0.2.1 y0.2.2.1).bind fun y1 => ((yl c).bind fun y2 => ((y3a y1 y2).bind fun y3 => ((y0b nw y0.2.2.2.2 y0.1 y0.2.1 y0.2.2.1).bind fun y4 => ((y1v y4 y3).bind fun y5 => ((y0f nw y0.2.2.2.2 y0.1 y0.2.1 y0.2.2.1).bind fun y6 => ((y0z nw y0.2.2.2.2 y0.1 y0.2.1 y0.2.2.1 y5 (IntKind.i64.wrap (y6 - 1))).bind fun y7 => ((y2h l2 y0.2.1).bind fun y8 => ((yu c).bind fun y9 => some ((IntKind.i64.wrap (y8 + IntKind.i64.wrap (y3 * y9))), true, y7)))))))))) else some (0, false, y0.2.2.2.2)))
def y1h (nw : Nat) (cur : List Int) (l2 : ya) (c : Int) : Option Bool :=
  ((y1f nw cur l2 c).bind fun y0 => some (decide (y0 ≥ 0)))
def y0t (nw : Nat) (cur : List Int) (l2 : ya) (a : Int) : Option (ya × Int × Int × Int × Bool) :=
  ((y2g l2 a).bind fun y0 => (bif (!y0.2.2) then some ((ya.mk (yb.mk 0 0 0 0 0 0 0 0 0 0 0) 0 0 0 0 0 0 0 0 0 0 0 0), 0, 0, 0, false) else ((ye nw cur l2 y0.1).bind fun y5 => ((yu (IntKind.i64.wrap (y5 - 1))).bind fun y6 => (bif (y6 == 0) then some ((ya.mk (yb.mk 0 0 0 0 0 0 0 0 0 0 0) 0 0 0 0 0 0 0 0 0 0 0 0), 0, 0, 0, false) else (bif (!y6 == 0) then (bif (Int.tmod y0.2.1 y6 != 0) then some ((ya.mk (yb.mk 0 0 0 0 0 0 0 0 0 0 0) 0 0 0 0 0 0 0 0 0 0 0 0), 0, 0, 0, false) else (bif (!y6 == 0) then ((y0b nw cur l2 y0.1 (IntKind.i64.wrap (y5 - 1))).bind fun y7 => ((y1t y7 (IntKind.i64.wrap (Int.tdiv y0.2.1 y6))).bind fun y8 => (bif (!y8) then some ((ya.mk (yb.mk 0 0 0 0 0 0 0 0 0 0 0) 0 0 0 0 0 0 0 0 0 0 0 0), 0, 0, 0, false) else (bif (!y6 == 0) then some (l2, y0.1, (IntKind.i64.wrap (y5 - 1)), (IntKind.i64.wrap (Int.tdiv y0.2.1 y6)), true) else none)))) else none)) else none))))))
def y09 (nw : Nat) (cur : List Int) (l2 : ya) (a : Int) : Option (Bool × (List Int)) :=
  ((y0t nw cur l2 a).bind fun y0 => (bif y0.2.2.2.2 then ((y0b nw cur y0.1 y0.2.1 y0.2.2.1).bind fun y1 => ((y1y y1 y0.2.2.2.1).bind fun y2 => ((y0f nw cur y0.1 y0.2.1 y0.2.2.1).bind fun y3 => ((y0z nw cur y0.1 y0.2.1 y0.2.2.1 y2 (IntKind.i64.wrap (y3 + 1))).bind fun y4 => some (true, y4))))) else some (false, cur)))
def y0u (nw : Nat) (cur : List Int) (l2 : ya) (a : Int) : Option (Int × Bool) :=
  ((y0t nw cur l2 a).bind fun y0 => (bif y0.2.2.2.2 then some (y0.2.2.1, true) else some (y0.2.2.1, false)))
def y4r (nw : Nat) (cur : List Int) (l2 : ya) (c t11 : Int) (many t12 : Int) : Option ((Int × Int) ⊕ Int) :=
  (bif (decide (t12 < t11)) then ((yu c).bind fun y0 => (bif (decide (y0 > 0)) then ((ye nw cur l2 t12).bind fun y1 => (bif (y1 == IntKind.i64.wrap (c + 1)) then ((yl c).bind fun y2 => ((ym l2 t12).bind fun y3 => (bif (inR y3 nw) then ((yl c).bind fun y4 => ((y0r (rd cur y3) y4).bind fun y5 => some (.inl ((IntKind.i64.wrap (many + IntKind.i64.wrap (y2 - y5))), (IntKind.i64.wrap (t12 + 1)))))) else none))) else some (.inl (many, (IntKind.i64.wrap (t12 + 1)))))) else some (.inl (many, (IntKind.i64.wrap (t12 + 1)))))) else some (.inr many))
def y95 (nw : Nat) (cur : List Int) (l2 : ya) (c t11 : Int) (s : Int × Int) : Option Int :=
  loopO (fun s => y4r nw cur l2 c t11 s.1 s.2) s
def yx (nw : Nat) (cur : List Int) (l2 : ya) (c : Int) : Option Int :=
  ((yh l2).bind fun y0 => (y95 nw cur l2 c y0.Pages (0, 0)))
attribute [local irreducible] Loop ex exF contK roundK retK at_ bodyOf mkEnv exFH
theorem y83 : SpecOK Tryz.prog elTT 58 (y5g y0f) := by
  refine spec_of_exF (cfg := (ye3 yr)) (yg rfl rfl rfl) (yd y4i (yd rd_ok yk)) (fn := Tryz.f58) (by kernel_rfl) (by kernel_rfl) (by kernel_rfl) ?_
  intro args H K h
  change y8c y0f args H K at h
  unfold y8c at h
  repeat first | (obtain ⟨_, h⟩ := h) | replace h := Des.el h
  subst_vars
  refine Eq.mpr (yh6 yr _ _ _ _ _ _ K) ?_
  unfold y0f at h
  revert h
  exact bind_So fun y0 => andV (by assumption) (req_So (fun h => h))
theorem y9e : SpecOK Tryz.prog elTT 55 (y5c y0b) := by
  refine spec_of_exF (cfg := (yc3 ym)) (yg rfl rfl rfl) (yd y50 (yd rd_ok yk)) (fn := Tryz.f55) (by kernel_rfl) (by kernel_rfl) (by kernel_rfl) ?_
  intro args H K h
  change y8m y0b args H K at h
  unfold y8m at h
  repeat first | (obtain ⟨_, h⟩ := h) | replace h := Des.el h
  subst_vars
  refine Eq.mpr (yh3 ym _ _ _ _ _ _ K) ?_
  unfold y0b at h
  revert h
  exact bind_So fun y0 => andV (by assumption) (req_So (fun h => h))
theorem yfj : SpecOK Tryz.prog elTT 99 (y5r y1q) := by
  refine spec_of_exF (cfg := (y8d y1o)) (yg rfl rfl rfl) (yd ye8 yk) (fn := Tryz.f99) (by kernel_rfl) (by kernel_rfl) (by kernel_rfl) ?_
  intro args H K h
  change y4e y1q args H K at h
  unfold y4e at h
  repeat first | (obtain ⟨_, h⟩ := h) | replace h := Des.el h
  subst_vars
  refine Eq.mpr (yd3 y1o _ _ _ _ _ _ _ _ _ _ _ _ _ _ _ _ _ _ _ _ _ _ _ _ _ _ _ _ _ _ _ K) ?_
  unfold y1q at h
  revert h
  exact andV (by assumption) (bind_So fun y0 => fun h => h)
theorem okd_pages_page_turn_1 : SpecDOK Tryz.prog elTT 99 (y5r y1q) := by
  refine specD_of_exF (cfg := (y8d y1o)) (yg rfl rfl rfl) (yd ye8 yk) (fn := Tryz.f99) (by kernel_rfl) (by kernel_rfl) (by kernel_rfl) ?_
  intro args H K h
  change y4e y1q args H K at h
  unfold y4e at h
  repeat first | (obtain ⟨_, h⟩ := h) | replace h := Des.el h
  subst_vars
  refine Eq.mpr (yd3 y1o _ _ _ _ _ _ _ _ _ _ _ _ _ _ _ _ _ _ _ _ _ _ _ _ _ _ _ _ _ _ _ K) ?_
  unfold y1q at h
  revert h
  exact andV (by assumption) (bind_So fun y0 => fun h => h)
theorem yb2 : SpecOK Tryz.prog elTT 56 (y7y y0z) := by
  refine spec_of_exFH (cfg := (yam y0f y2d yl y2c y1q ym yr)) (yg rfl rfl rfl) (yd y83 (yd yjc (yd y4s (yd yet (yd yfj (yd y50 (yd wr_ok (yd y4i yk)))))))) (sdC_ok okd_pages_page_turn_1) (fn := Tryz.f56) (by kernel_rfl) (by kernel_rfl) (by kernel_rfl) ?_
  intro args H K h
  change y97 y0z args H K at h
  unfold y97 at h
  repeat first | (obtain ⟨_, h⟩ := h) | replace h := Des.el h
  subst_vars
  refine Eq.mpr (yiv y0f y2d yl y2c y1q ym yr _ _ _ _ _ _ _ _ K) ?_
  unfold y0z at h
  revert h
  exact andV (by assumption) (bind_So fun y0 => andV (by assumption) (bind_So fun y1 => bind_So fun y2 => br_So (andV (by assumption) (bind_So fun y3 => fun h => h)) (bind_So fun y4 => andV (by assumption) (req_So (bind_So fun y5 => andV (by assumption) (req_So (andV (by assumption) (bind_So fun y6 => fun h => h))))))))
theorem yff : SpecOK Tryz.prog elTT 53 (yd8 y1g) := by
  refine spec_of_exF (cfg := (ydm yu y1f y2m y1p yr yl)) (yg rfl rfl rfl) (yd y4t (yd ydn (yd yjd (yd yir (yd y4i (yd y4s (yd wr_ok yk))))))) (fn := Tryz.f53) (by kernel_rfl) (by kernel_rfl) (by kernel_rfl) ?_
  intro args H K h
  change y9f y1g args H K at h
  unfold y9f at h
  repeat first | (obtain ⟨_, h⟩ := h) | replace h := Des.el h
  subst_vars
  refine Eq.mpr (yg6 yu y1f y2m y1p yr yl _ _ _ _ _ K) ?_
  unfold y1g at h
  revert h
  exact bind_So fun y0 => br_So (fun h => h) (andV (by assumption) (bind_So fun y1 => br_So (fun h => h) (andV (by assumption) (bind_So fun y2 => andV (by assumption) (bind_So fun y3 => br_So (fun h => h) (bind_So fun y4 => bind_So fun y5 => andV (by assumption) (req_So (fun h => h))))))))
theorem y8v : SpecOK Tryz.prog elTT 25 (y58 y01) := by
  refine spec_of_exF (cfg := (yay y1g y0b yl y3a y1v y0f y0z y2h yu)) (yg rfl rfl rfl) (yd yff (yd y9e (yd y4s (yd ygw (yd yhi (yd y83 (yd yb2 (yd yf1 (yd y4t yk))))))))) (fn := Tryz.f25) (by kernel_rfl) (by kernel_rfl) (by kernel_rfl) ?_
  intro args H K h
  change y8b y01 args H K at h
  unfold y8b at h
  repeat first | (obtain ⟨_, h⟩ := h) | replace h := Des.el h
  subst_vars
  refine Eq.mpr (ygm y1g y0b yl y3a y1v y0f y0z y2h yu _ _ _ _ _ K) ?_
  unfold y01 at h
  revert h
  exact andV (by assumption) (bind_So fun y0 => br_So (andV (by assumption) (bind_So fun y1 => bind_So fun y2 => bind_So fun y3 => andV (by assumption) (bind_So fun y4 => bind_So fun y5 => andV (by assumption) (bind_So fun y6 => andV (by assumption) (bind_So fun y7 => bind_So fun y8 => bind_So fun y9 => fun h => h))))) (fun h => h))
theorem yhd : SpecOK Tryz.prog elTT 24 (yds y1h) := by
  refine spec_of_exF (cfg := (ydj y1f)) (yg rfl rfl rfl) (yd ydn yk) (fn := Tryz.f24) (by kernel_rfl) (by kernel_rfl) (by kernel_rfl) ?_
  intro args H K h
  change y6g y1h args H K at h
  unfold y6g at h
  repeat first | (obtain ⟨_, h⟩ := h) | replace h := Des.el h
  subst_vars
  refine Eq.mpr (yg2 y1f _ _ _ _ _ K) ?_
  unfold y1h at h
  revert h
  exact andV (by assumption) (bind_So fun y0 => fun h => h)
theorem ycr : SpecOK Tryz.prog elTT 64 (y6n y0t) := by
  refine spec_of_exF (cfg := (ydq y2g ye yu y0b y1t)) (yg rfl rfl rfl) (yd ygc (yd y3r (yd y4t (yd y9e (yd yit yk))))) (fn := Tryz.f64) (by kernel_rfl) (by kernel_rfl) (by kernel_rfl) ?_
  intro args H K h
  change y69 y0t args H K at h
  unfold y69 at h
  repeat first | (obtain ⟨_, h⟩ := h) | replace h := Des.el h
  subst_vars
  refine Eq.mpr (yf7 y2g ye yu y0b y1t _ _ _ _ _ K) ?_
  unfold y0t at h
  revert h
  exact bind_So fun y0 => br_So (fun h => h) (alt_So (andV (by assumption) (bind_So fun y1 => bind_So fun y2 => br_So (fun h => h) (req_So (br_So (fun h => h) (req_So (andV (by assumption) (bind_So fun y3 => bind_So fun y4 => br_So (fun h => h) (req_So (fun h => h))))))))) (andV (by assumption) (bind_So fun y5 => bind_So fun y6 => br_So (fun h => h) (req_So (br_So (fun h => h) (req_So (andV (by assumption) (bind_So fun y7 => bind_So fun y8 => br_So (fun h => h) (req_So (fun h => h))))))))))
theorem ydu : SpecOK Tryz.prog elTT 30 (y8r y09) := by
  refine spec_of_exF (cfg := (ycu y0t y0b y1y y0f y0z)) (yg rfl rfl rfl) (yd ycr (yd y9e (yd ygh (yd y83 (yd yb2 yk))))) (fn := Tryz.f30) (by kernel_rfl) (by kernel_rfl) (by kernel_rfl) ?_
  intro args H K h
  change y62 y09 args H K at h
  unfold y62 at h
  repeat first | (obtain ⟨_, h⟩ := h) | replace h := Des.el h
  subst_vars
  refine Eq.mpr (yfv y0t y0b y1y y0f y0z _ _ _ _ _ K) ?_
  unfold y09 at h
  revert h
  exact andV (by assumption) (bind_So fun y0 => br_So (andV (by assumption) (bind_So fun y1 => bind_So fun y2 => andV (by assumption) (bind_So fun y3 => andV (by assumption) (bind_So fun y4 => fun h => h)))) (fun h => h))
theorem yf3 : SpecOK Tryz.prog elTT 42 (ybv y0u) := by
  refine spec_of_exF (cfg := (ycb y0t)) (yg rfl rfl rfl) (yd ycr yk) (fn := Tryz.f42) (by kernel_rfl) (by kernel_rfl) (by kernel_rfl) ?_
  intro args H K h
  change y9p y0u args H K at h
  unfold y9p at h
  repeat first | (obtain ⟨_, h⟩ := h) | replace h := Des.el h
  subst_vars
  refine Eq.mpr (yer y0t _ _ _ _ _ K) ?_
  unfold y0u at h
  revert h
  exact andV (by assumption) (bind_So fun y0 => br_So (fun h => h) (fun h => h))
theorem lpok_pages_Free_L1 (ws cur : List Int) (xs : List Value) (l2 : ya) (c many : Int) (t11 t12 : Int) (K : V → Heap → Prop) (hx : xs.length ≤ 2) : So (y95 ws.length cur l2 c t11 (many, t12)) (fun (x : Int) => K (vi x) (hV ws cur xs)) → Loop (y2r yh yu ye yl ym y0r) (⟨42, 2⟩ : Cx) (at_ (bodyOf Tryz.f29) [1, 1, 0, 1, 0, 0]) (mkEnv [(0, .ptr 0 0), (2, vi c), (4, .ptr 2 0), (7, vi many), (11, vi t11), (12, vi t12)]) [.pk 0 [ws, cur] xs [.row 1], .row 0 ws true, .cells 28 (yc l2)] (contK (y2r yh yu ye yl ym y0r) (⟨42, 2⟩ : Cx) (bodyOf Tryz.f29) [1, 1, 0, 1, 0] (retK (y2r yh yu ye yl ym y0r) Tryz.f29 2 K)) := by
  refine loopK_So (fun (s_ : Int × Int) => (mkEnv [(0, .ptr 0 0), (2, vi c), (4, .ptr 2 0), (7, vi s_.1), (11, vi t11), (12, vi s_.2)])) (fun (s_ : Int × Int) => [.pk 0 [ws, cur] xs [.row 1], .row 0 ws true, .cells 28 (yc l2)]) (fun (x : Int) => K (vi x) (hV ws cur xs)) ?_ (many, t12)
  intro s_ J1 h
  clear many
  clear t12
  obtain ⟨many, t12⟩ := s_
  refine Eq.mpr (yhr yh yu ye yl ym y0r ws cur xs l2 c many t11 t12 K J1) ?_
  have h : So (y4r ws.length cur l2 c t11 many t12) _ := h
  unfold y4r at h
  revert h
  exact br_So (bind_So fun y0 => br_So (andV hx (bind_So fun y1 => br_So (bind_So fun y2 => bind_So fun y3 => andV hx (req_So (bind_So fun y4 => bind_So fun y5 => fun h => h))) (fun h => h))) (fun h => h)) (fun h => h)
theorem y7s : SpecOK Tryz.prog elTT 29 (y5k yx) := by
  refine spec_of_exF (cfg := (y2r yh yu ye yl ym y0r)) (yg rfl rfl rfl) (yd y3m (yd y4t (yd y3r (yd y4s (yd y50 (yd rd_ok (yd ygu yk))))))) (fn := Tryz.f29) (by kernel_rfl) (by kernel_rfl) (by kernel_rfl) ?_
  intro args H K h
  change y6f yx args H K at h
  unfold y6f at h
  repeat first | (obtain ⟨_, h⟩ := h) | replace h := Des.el h
  subst_vars
  refine Eq.mpr (yig yh yu ye yl ym y0r _ _ _ _ _ K) ?_
  unfold yx at h
  revert h
  exact bind_So fun y0 => lpok_pages_Free_L1 _ _ _ _ _ _ _ _ K (by assumption)
end Go.Rx
end

section
namespace Go.Rx
def sizeC (c : Int) : Int := if c = 0 then 1 else if c = 1 then 2 else if c = 2 then 4 else if c = 3 then 8 else if c = 4 then 16 else 0
theorem sizeC_in {c : Int} (h : 0 ≤ c ∧ c < 5) : 1 ≤ sizeC c ∧ sizeC c ≤ 16 ∧ slotsC c * sizeC c = 32 := by
  have e : c = 0 ∨ c = 1 ∨ c = 2 ∨ c = 3 ∨ c = 4 := by omega
  rcases e with rfl | rfl | rfl | rfl | rfl <;> simp [sizeC, slotsC]
theorem sizeC_no {c : Int} (h : ¬ (0 ≤ c ∧ c < 5)) : sizeC c = 0 := by
  unfold sizeC
  rw [if_neg (by omega), if_neg (by omega), if_neg (by omega), if_neg (by omega), if_neg (by omega)]
theorem slotsC_no {c : Int} (h : ¬ (0 ≤ c ∧ c < 5)) : slotsC c = 0 := by
  unfold slotsC
  rw [if_neg (by omega), if_neg (by omega), if_neg (by omega), if_neg (by omega), if_neg (by omega)]
theorem firstF_is {ls : Int → Int → List Int} {c : Int} : ∀ (n : Nat) (f : Int), (firstF ls c f n = -1 ∧ ∀ g, f ≤ g → g < f + n → ls c g = []) ∨
    (∃ g x r, f ≤ g ∧ g < f + n ∧ ls c g = x :: r ∧ firstF ls c f n = x ∧ ∀ g', f ≤ g' → g' < g → ls c g' = [])
  | 0, f => .inl ⟨rfl, fun g h1 h2 => by omega⟩
  | n + 1, f => by
    cases hl : ls c f with
    | cons x r => exact .inr ⟨f, x, r, by omega, by omega, hl, by simp [firstF, hl], fun g' h1 h2 => by omega⟩
    | nil =>
      have e : firstF ls c f (n + 1) = firstF ls c (f + 1) n := by simp [firstF, hl]
      rw [e]
      rcases firstF_is n (f + 1) with ⟨h1, h2⟩ | ⟨g, x, r, h1, h2, h3, h4, h5⟩
      · refine .inl ⟨h1, fun g k1 k2 => ?_⟩
        by_cases hg : g = f
        · rw [hg]; exact hl
        · exact h2 g (by omega) (by omega)
      · refine .inr ⟨g, x, r, by omega, by omega, h3, h4, fun g' k1 k2 => ?_⟩
        by_cases hg : g' = f
        · rw [hg]; exact hl
        · exact h5 g' (by omega) (by omega)
variable {L : ya} {nw : Nat} {cur u inn : List Int} {ls : Int → Int → List Int}
theorem page_at (v : VOK L nw cur) {p : Int} (hp : 0 ≤ p ∧ p < L.c.Pages) : inR (L.at_1 + p) nw = true ∧ inR (L.at_2 + p) nw = true ∧ inR (L.at_3 + p) nw = true := by
  have := v.lay.geo11; have := v.all
  exact ⟨inR_int (by omega) (by omega), inR_int (by omega) (by omega), inR_int (by omega) (by omega)⟩
theorem lPg_in {at_ p : Int} (hp : 0 ≤ p ∧ p < L.c.Pages) : lPg L at_ p = at_ + p := if_pos hp
theorem left_eq (v : VOK L nw cur) {p : Int} (hp : 0 ≤ p ∧ p < L.c.Pages) (c : Int) : y0f nw cur L p c = some (cw L cur p) := by
  unfold y0f
  rw [Count_eq v.lay, Option.bind_some, lPg_in hp, (page_at v hp).2.1]
  rfl
theorem bits_eq (v : VOK L nw cur) {p : Int} (hp : 0 ≤ p ∧ p < L.c.Pages) (c : Int) : y0b nw cur L p c = some (bw L cur p) := by
  unfold y0b
  rw [Bits_eq v.lay, Option.bind_some, lPg_in hp, (page_at v hp).2.2]
  rfl
theorem drop_page (h : LayOK L) (hn : L.at_11 ≤ (cur.length : Int)) {p n c : Int} (hp : 0 ≤ p ∧ p < L.c.Pages) (hc : 0 ≤ c ∧ c < 5) (hk : kw L cur p = c + 1) (l : RunLen L.at_1 L.c.Pages cur p n) (t : Ran L.at_1 L.c.Pages cur u p n 0) : u = setP L.at_1 L.c.Pages cur p 0 0 := by
  have e : n = 1 := l.one (by rw [knd_in hp]; show kw L cur p ≠ 6; omega)
  subst e
  have g := GeoKL h hn
  have s := (Ran.zero L.at_1 L.c.Pages cur p 0).step g hp.1 (by omega) (by omega)
  rw [Int.add_zero, Int.zero_add] at s
  exact t.uniq s
theorem pturn_eq (v : VOK L nw cur) (r : RepW L.at_4 L.c.Pages cur inn ls) {p c n b : Int} (hp : 0 ≤ p ∧ p < L.c.Pages) (hc : 0 ≤ c ∧ c < 5) (hk : kw L cur p = c + 1) {inn1 : List Int} {ls1 : Int → Int → List Int}
    (r1 : RepW L.at_4 L.c.Pages (unl L ls cur p c (cw L cur p)) inn1 ls1) (hlen : (unl L ls cur p c (cw L cur p)).length = cur.length)
    (hoff : ∀ b, 0 ≤ b → (b < L.at_4 ∨ L.at_4 + 2 * L.c.Pages + 62 ≤ b) → wd (unl L ls cur p c (cw L cur p)) b = wd cur b) :
    y0z nw cur L p c b n = some (turnW L (unl L ls cur p c (cw L cur p)) p c b n) := by
  have g := v.lay.geo11
  unfold y0z
  rw [left_eq v hp, Option.bind_some, Unlink_eq v (xs := ls c (cw L cur p)) (fun k => r.lst _ _ k), Option.bind_some, Slots_eq, Option.bind_some]
  have e2 : (if isL c (cw L cur p) ∧ p ∈ ls c (cw L cur p) then (true, unlinkW L.at_4 L.c.Pages cur (hdI (L.at_4 + 2 * L.c.Pages) c (cw L cur p)) p) else (false, cur)).2 = unl L ls cur p c (cw L cur p) := by unfold unl; split <;> rfl
  rw [e2]
  generalize unl L ls cur p c (cw L cur p) = x at *
  have vx : VOK L nw x := ⟨v.lay, hlen.trans v.len, v.all⟩
  have hkx : kw L x p = c + 1 := (hoff _ (by omega) (.inl (by omega))).trans hk
  unfold turnW
  by_cases hs : n = slotsC c
  · rw [if_pos hs, beq_iff_eq.2 hs, cond_true]
    obtain ⟨k, y, e, h⟩ := eDrop_eq vx p
    rw [e, Option.bind_some]
    have hkn : knd L.at_1 L.c.Pages x p = c + 1 := (knd_in hp).trans hkx
    rcases h with ⟨_, _, h3, h4⟩ | ⟨h1, _⟩
    · exact congrArg some (drop_page v.lay (by have := vx.len; have := vx.all; omega) hp hc hkx h3 h4)
    · exact absurd ⟨by rw [hkn]; omega, by rw [hkn]; omega⟩ h1
  · rw [if_neg hs, beq_eq_false_iff_ne.2 hs, cond_false]
    rw [Bits_eq v.lay, Option.bind_some, lPg_in hp, (page_at v hp).2.2, cond_true, Count_eq v.lay, Option.bind_some, lPg_in hp, (page_at v hp).2.1, cond_true]
    have hw : wr (wr x (L.at_3 + p) b) (L.at_2 + p) n = (x.set (L.at_3 + p).toNat b).set (L.at_2 + p).toNat n := rfl
    rw [hw]
    have hxl : (x.length : Int) ≥ L.at_11 := by have := vx.len; have := vx.all; omega
    have hyw : ∀ b', 0 ≤ b' → wd ((x.set (L.at_3 + p).toNat b).set (L.at_2 + p).toNat n) b' = if b' = L.at_2 + p then n else if b' = L.at_3 + p then b else wd x b' := fun b' hb => by
      rw [wd_set (by rw [List.length_set]; omega) hb, wd_set (by omega) hb]
    have vy : VOK L nw ((x.set (L.at_3 + p).toNat b).set (L.at_2 + p).toNat n) := ⟨v.lay, by rw [List.length_set, List.length_set]; exact vx.len, v.all⟩
    have ry : RepW L.at_4 L.c.Pages ((x.set (L.at_3 + p).toNat b).set (L.at_2 + p).toNat n) inn1 ls1 := r1.congr (by omega) (by omega) (fun b' h0 h1 => by rw [hyw b' (by omega), if_neg (by omega), if_neg (by omega)])
    generalize (x.set (L.at_3 + p).toNat b).set (L.at_2 + p).toNat n = y at *
    show ((y1o nw y L p c n).bind fun y0 => some (Prod.snd y0)).bind (fun y6 => some y6) = _
    rw [Link_eq vy (xs := ls1 c n) (fun k => ry.lst _ _ k), Option.bind_some, Option.bind_some]
    by_cases hL : isL c n
    · rw [if_pos ⟨hL, hp⟩, if_pos hL]
    · rw [if_neg (fun x => hL x.1), if_neg hL]
structure Tk (L : ya) (w : List Int) (a p c : Int) (m : Nat) (i : Int) : Prop where
  user : L.at_10 ≤ a ∧ a < L.at_11
  page : p = (a - L.at_10) / 32
  cls : 0 ≤ c ∧ c < 5
  kind : kw L w p = c + 1
  bits : bw L w p = m
  mul : (a - L.at_10) % 32 % sizeC c = 0
  num : i = (a - L.at_10) % 32 / sizeC c
  is : m.testBit i.toNat = true
theorem Tk.more {w : List Int} {a p c i : Int} {m : Nat} (h : LayOK L) (t : Tk L w a p c m i) : (0 ≤ p ∧ p < L.c.Pages) ∧ (0 ≤ i ∧ i < slotsC c) ∧ a = L.at_10 + p * 32 + i * sizeC c := by
  obtain ⟨⟨h1, h2⟩, rfl, hc, _, _, hm, rfl, _⟩ := t
  have := h.geo11
  have e : c = 0 ∨ c = 1 ∨ c = 2 ∨ c = 3 ∨ c = 4 := by omega
  refine ⟨⟨by omega, by omega⟩, ?_⟩
  rcases e with rfl | rfl | rfl | rfl | rfl <;> simp [sizeC, slotsC] at * <;> omega
theorem pat_eq (v : VOK L nw cur) (i : Inv11 L cur inn ls) (a : Int) :
    (∃ p c m j, Tk L cur a p c m j ∧ ClsOK L cur inn p c m ∧ y0t nw cur L a = some (L, p, c, j, true)) ∨
    ((∀ p c m j, ¬ Tk L cur a p c m j) ∧ ∃ L0, y0t nw cur L a = some (L0, 0, 0, 0, false)) := by
  have g := v.lay.geo11
  unfold y0t
  rw [Place_eq v.lay, Option.bind_some]
  unfold lPlace
  by_cases hu : L.at_10 ≤ a ∧ a < L.at_11
  · rw [if_pos hu]
    simp only [Bool.not_true, cond_false]
    generalize hpd : (a - L.at_10) / 32 = p
    have hp : 0 ≤ p ∧ p < L.c.Pages := by omega
    rw [eKind_eq v, Option.bind_some, knd_in hp]
    have hkw : wd cur (L.at_1 + p) = kw L cur p := rfl
    rw [hkw]
    rcases i.pg p hp.1 hp.2 with f | ⟨c, m, f⟩
    · rw [f.kind, show IntKind.wrap .i64 (0 - 1) = -1 from rfl, Size_eq]
      refine .inr ⟨fun p' c' m' j t => ?_, _, rfl⟩
      have := t.page; have := t.kind; have := t.cls
      rw [hpd] at *
      subst p'
      have := f.kind
      omega
    · have hc := f.cls
      obtain ⟨z1, z2, z3⟩ := sizeC_in hc
      obtain ⟨s1, s2, s3⟩ := slots_pow hc
      rw [f.kind, wrap_id (by omega) (by omega), show c + 1 - 1 = c by omega, Size_eq, Option.bind_some]
      have hsz : (if c = 0 then 1 else if c = 1 then 2 else if c = 2 then 4 else if c = 3 then 8 else if c = 4 then 16 else 0) = sizeC c := rfl
      rw [hsz, beq_eq_false_iff_ne.2 (show sizeC c ≠ 0 by omega)]
      simp only [Bool.not_false, cond_true, cond_false]
      have hx : 0 ≤ (a - L.at_10) % 32 ∧ (a - L.at_10) % 32 < 32 := by omega
      have same : ∀ p' c' m' j, Tk L cur a p' c' m' j → p' = p ∧ c' = c ∧ m' = m := by
        intro p' c' m' j t
        have e1 : p' = p := t.page.trans hpd
        subst e1
        have := t.kind; have := f.kind
        have e3 : (m' : Int) = m := t.bits.symm.trans f.bits
        exact ⟨rfl, by omega, by omega⟩
      rw [Int.tmod_eq_emod_of_nonneg hx.1, Int.tdiv_eq_ediv_of_nonneg hx.1]
      by_cases hm : (a - L.at_10) % 32 % sizeC c = 0
      · have hj : 0 ≤ (a - L.at_10) % 32 / sizeC c ∧ (a - L.at_10) % 32 / sizeC c < 32 := by
          have e : c = 0 ∨ c = 1 ∨ c = 2 ∨ c = 3 ∨ c = 4 := by omega
          rcases e with rfl | rfl | rfl | rfl | rfl <;> simp [sizeC] <;> omega
        rw [hm, show ((0 : Int) != 0) = false from rfl, cond_false, bits_eq v hp, Option.bind_some, f.bits, wrap_id (by omega) (by omega), Has_eq (bits_lt f.lt s1), Option.bind_some]
        have hb : bitI m ((a - L.at_10) % 32 / sizeC c) = m.testBit ((a - L.at_10) % 32 / sizeC c).toNat := by unfold bitI; rw [decide_eq_true hj]; rfl
        rw [hb]
        cases ht : m.testBit ((a - L.at_10) % 32 / sizeC c).toNat with
        | true => exact .inl ⟨p, c, m, _, ⟨hu, hpd.symm, hc, f.kind, f.bits, hm, rfl, ht⟩, f, rfl⟩
        | false =>
          refine .inr ⟨fun p' c' m' j t => ?_, _, rfl⟩
          obtain ⟨rfl, rfl, rfl⟩ := same p' c' m' j t
          have := t.is
          rw [t.num, ht] at this
          cases this
      · rw [bne_iff_ne.2 hm]
        refine .inr ⟨fun p' c' m' j t => ?_, _, rfl⟩
        obtain ⟨rfl, rfl, rfl⟩ := same p' c' m' j t
        exact hm t.mul
  · rw [if_neg hu]
    exact .inr ⟨fun p c m j t => hu t.user, _, rfl⟩
theorem pTaken_eq (v : VOK L nw cur) (i : Inv11 L cur inn ls) (a : Int) :
    (∃ p c m j, Tk L cur a p c m j ∧ y0u nw cur L a = some (c, true)) ∨ ((∀ p c m j, ¬ Tk L cur a p c m j) ∧ y0u nw cur L a = some (0, false)) := by
  unfold y0u
  rcases pat_eq v i a with ⟨p, c, m, j, h1, _, h3⟩ | ⟨h1, L0, h2⟩
  · exact .inl ⟨p, c, m, j, h1, by rw [h3]; rfl⟩
  · exact .inr ⟨h1, by rw [h2]; rfl⟩
inductive RetS (L : ya) (ls : Int → Int → List Int) (w : List Int) (a : Int) : Bool → List Int → Prop
  | no : (∀ p c m j, ¬ Tk L w a p c m j) → RetS L ls w a false w
  | yes {p c : Int} {m : Nat} {j : Int} : Tk L w a p c m j → RetS L ls w a true (turnW L (unl L ls w p c (cw L w p)) p c ((m - 2 ^ j.toNat : Nat) : Int) (cw L w p + 1))
theorem RetS.uniq {w : List Int} {a : Int} {b b' : Bool} {x x' : List Int} (h : RetS L ls w a b x) (h' : RetS L ls w a b' x') : b = b' ∧ x = x' := by
  cases h with
  | no h =>
    cases h' with
    | no _ => exact ⟨rfl, rfl⟩
    | yes t => exact absurd t (h _ _ _ _)
  | @yes p c m j t =>
    cases h' with
    | no h => exact absurd t (h _ _ _ _)
    | @yes p' c' m' j' t' =>
      have e1 : p = p' := t.page.trans t'.page.symm
      subst e1
      have e2 : c = c' := by have := t.kind; have := t'.kind; omega
      subst e2
      have e3 : m = m' := by have := t.bits; have := t'.bits; omega
      subst e3
      have e4 : j = j' := t.num.trans t'.num.symm
      subst e4
      exact ⟨rfl, rfl⟩
theorem cls_rep (h : LayOK L) (hn : L.at_11 ≤ (cur.length : Int)) (r : RepW L.at_4 L.c.Pages cur inn ls) {p c : Int} {m : Nat} (hp : 0 ≤ p ∧ p < L.c.Pages) (f : ClsOK L cur inn p c m) :
    ∃ ls', RepW L.at_4 L.c.Pages (unl L ls cur p c (cw L cur p)) (inn.set p.toNat 0) ls' ∧ (unl L ls cur p c (cw L cur p)).length = cur.length ∧ ∀ b, 0 ≤ b → (b < L.at_4 ∨ L.at_4 + 2 * L.c.Pages + 62 ≤ b) → wd (unl L ls cur p c (cw L cur p)) b = wd cur b := by
  have := popN_le m (slotsC c).toNat
  have := f.left; have := f.used; have := slots_pow f.cls
  exact unl_rep h hn r hp f.cls (by omega) f.linked
theorem pReturn_eq (v : VOK L nw cur) (i : Inv11 L cur inn ls) (a : Int) : ∃ b x, y09 nw cur L a = some (b, x) ∧ RetS L ls cur a b x := by
  unfold y09
  rcases pat_eq v i a with ⟨p, c, m, j, t, f, e⟩ | ⟨h1, L0, e⟩
  · rw [e, Option.bind_some]
    obtain ⟨hp, hj, _⟩ := t.more v.lay
    obtain ⟨s1, s2, s3⟩ := slots_pow f.cls
    have hpop := popN_le m (slotsC c).toNat
    have hleft := f.left; have hused := f.used
    have hn : L.at_11 ≤ (cur.length : Int) := by have := v.len; have := v.all; omega
    obtain ⟨ls', r1, hlen, hoff⟩ := cls_rep v.lay hn i.rep hp f
    simp only [cond_true]
    rw [bits_eq v hp, Option.bind_some, f.bits, Clear_eq (bits_lt f.lt s1) (by omega) t.is, Option.bind_some, left_eq v hp, Option.bind_some, wrap_id (by omega) (by omega), pturn_eq v i.rep hp f.cls f.kind r1 hlen hoff]
    exact ⟨_, _, rfl, .yes t⟩
  · rw [e, Option.bind_some]
    exact ⟨_, _, rfl, .no h1⟩
theorem RetS.inv {w x : List Int} {a : Int} {b : Bool} (h : LayOK L) (hn : L.at_11 ≤ (w.length : Int)) (i : Inv11 L w inn ls) (s : RetS L ls w a b x) : x.length = w.length ∧ ∃ inn' ls', Inv11 L x inn' ls' := by
  cases s with
  | no _ => exact ⟨rfl, _, _, i⟩
  | @yes p c m j t =>
    obtain ⟨hp, hj, _⟩ := t.more h
    obtain ⟨s1, s2, s3⟩ := slots_pow t.cls
    have f : ClsOK L w inn p c m := by
      rcases i.pg p hp.1 hp.2 with f | ⟨c', m', f⟩
      · have := f.kind; have := t.kind; have := t.cls; omega
      · have e1 : c' = c := by have := f.kind; have := t.kind; omega
        subst e1
        have e2 : m' = m := by have := f.bits; have := t.bits; omega
        subst e2
        exact f
    obtain ⟨ls', r1, hlen, hoff⟩ := cls_rep h hn i.rep hp f
    have hs := popN_sub (k := (slotsC c).toNat) (by omega) t.is
    have hleft := f.left
    refine ⟨by rw [turnW_len, hlen], turn_inv h hn hp (fun q h0 h1 _ => i.pg q h0 h1) r1 hlen hoff t.cls t.kind (Nat.lt_of_le_of_lt (Nat.sub_le _ _) f.lt) (by omega)⟩
theorem pRoom_eq (v : VOK L nw cur) (i : Inv11 L cur inn ls) (c : Int) : y1h nw cur L c = some (decide (0 ≤ firstF ls c 1 (slotsC c).toNat)) := by
  unfold y1h
  rw [pFirst_eq v (ls := ls) (fun f k => i.rep.lst _ _ k), Option.bind_some]
def freeN (L : ya) (w : List Int) (c : Int) : Nat → Int
  | 0 => 0
  | k + 1 => freeN L w c k + if (0 ≤ c ∧ c < 5) ∧ kw L w k = c + 1 then slotsC c - popN (bw L w k).toNat (slotsC c).toNat else 0
theorem freeN_le (L : ya) (w : List Int) (c : Int) : ∀ k, 0 ≤ freeN L w c k ∧ freeN L w c k ≤ 32 * k
  | 0 => by simp [freeN]
  | k + 1 => by
    have := freeN_le L w c k
    have := slotsC_le c
    have := popN_le (bw L w k).toNat (slotsC c).toNat
    simp only [freeN]
    split <;> omega
theorem pFree_eq (v : VOK L nw cur) (i : Inv11 L cur inn ls) (c : Int) : yx nw cur L c = some (freeN L cur c L.c.Pages.toNat) := by
  have hpg := v.lay.pages
  have key : ∀ d k : Nat, L.c.Pages.toNat - k = d → (k : Int) ≤ L.c.Pages → y95 nw cur L c L.c.Pages (freeN L cur c k, (k : Int)) = some (freeN L cur c L.c.Pages.toNat) := by
    intro d
    induction d with
    | zero =>
      intro k hd hk
      have e : k = L.c.Pages.toNat := by omega
      subst e
      exact loopO_end (by simp only [y4r, decide_eq_false (show ¬ ((L.c.Pages.toNat : Int) < L.c.Pages) by omega), cond_false])
    | succ d ih =>
      intro k hd hk
      have hp : 0 ≤ (k : Int) ∧ (k : Int) < L.c.Pages := by omega
      have hb := freeN_le L cur c k
      have hb1 := freeN_le L cur c (k + 1)
      refine (loopO_go (s' := (freeN L cur c (k + 1), ((k + 1 : Nat) : Int))) ?_).trans (ih (k + 1) (by omega) (by omega))
      simp only [y4r, decide_eq_true hp.2, cond_true, Size_eq, Option.bind_some]
      rw [show (if c = 0 then 1 else if c = 1 then 2 else if c = 2 then 4 else if c = 3 then 8 else if c = 4 then 16 else 0) = sizeC c from rfl, wrap_id (x := (k : Int) + 1) (by omega) (by omega)]
      simp only [freeN]
      by_cases hc : 0 ≤ c ∧ c < 5
      · obtain ⟨z1, z2, z3⟩ := sizeC_in hc
        obtain ⟨s1, s2, s3⟩ := slots_pow hc
        rw [decide_eq_true (show sizeC c > 0 by omega), cond_true, eKind_eq v, Option.bind_some, knd_in hp, wrap_id (x := c + 1) (by omega) (by omega)]
        have hkw : wd cur (L.at_1 + (k : Int)) = kw L cur k := rfl
        rw [hkw]
        by_cases hk1 : kw L cur k = c + 1
        · rw [beq_iff_eq.2 hk1, cond_true, if_pos ⟨hc, hk1⟩, Slots_eq, Option.bind_some, Bits_eq v.lay, Option.bind_some, lPg_in hp, (page_at v hp).2.2, cond_true]
          rcases i.pg k hp.1 hp.2 with f | ⟨c', m, f⟩
          · have := f.kind; omega
          · have e1 : c' = c := by have := f.kind; omega
            subst e1
            have hrd : rd cur (L.at_3 + (k : Int)) = (m : Int) := f.bits
            have hbw : bw L cur k = (m : Int) := f.bits
            have hpop := popN_le m (slotsC c').toNat
            rw [hrd, hbw, Int.toNat_natCast]
            have hcnt : y0r (m : Int) (slotsC c') = some (popN m (slotsC c').toNat : Int) := by
              have := Count_is (bits_lt f.lt s1) s1
              rw [s3] at this
              exact this
            rw [Option.bind_some, hcnt, Option.bind_some, wrap_id (x := slotsC c' - (popN m (slotsC c').toNat : Int)) (by omega) (by omega), wrap_id (by omega) (by omega)]
            rfl
        · rw [beq_eq_false_iff_ne.2 hk1, cond_false, if_neg (fun x => hk1 x.2), Int.add_zero]
          rfl
      · rw [sizeC_no hc, if_neg (fun x => hc x.1), Int.add_zero]
        rfl
  unfold yx
  rw [Config_eq, Option.bind_some]
  exact key _ 0 rfl (by omega)
end Go.Rx
end

section
namespace Go.Rx
variable {L : ya} {nw : Nat} {cur u inn : List Int} {ls : Int → Int → List Int}
theorem first_cls {w : List Int} {c p : Int} (i : Inv11 L w inn ls) (hc : 0 ≤ c ∧ c < 5) (hf : firstF ls c 1 (slotsC c).toNat = p) :
    (p = -1 ∧ ∀ q, 0 ≤ q → q < L.c.Pages → kw L w q = c + 1 → cw L w q = 0) ∨
    ((0 ≤ p ∧ p < L.c.Pages) ∧ (∃ m, ClsOK L w inn p c m) ∧ 1 ≤ cw L w p ∧ p ∈ ls c (cw L w p) ∧ ∀ q, 0 ≤ q → q < L.c.Pages → kw L w q = c + 1 → cw L w q = 0 ∨ cw L w p ≤ cw L w q) := by
  obtain ⟨s1, s2, s3⟩ := slots_pow hc
  have key : ∀ q, 0 ≤ q → q < L.c.Pages → kw L w q = c + 1 → cw L w q = 0 ∨ (isL c (cw L w q) ∧ q ∈ ls c (cw L w q)) := fun q h0 h1 hk => by
    rcases i.pg q h0 h1 with f | ⟨c', m, f⟩
    · have := f.kind; omega
    · have e1 : c' = c := by have := f.kind; omega
      subst e1
      have hl := f.linked; have hu := f.used; have := f.left; have := popN_le m (slotsC c').toNat
      by_cases z : cw L w q = 0
      · exact .inl z
      · rw [if_neg z] at hl
        have hL : isL c' (cw L w q) := ⟨hc, by omega, by omega⟩
        exact .inr ⟨hL, (i.rep.mem _ _ hL q).2 ⟨⟨h0, h1⟩, hl⟩⟩
  rcases firstF_is (ls := ls) (c := c) (slotsC c).toNat 1 with ⟨h1, h2⟩ | ⟨g, x, r, h1, h2, h3, h4, h5⟩
  · refine .inl ⟨by omega, fun q q0 q1 hk => ?_⟩
    rcases key q q0 q1 hk with z | ⟨hL, hm⟩
    · exact z
    · have := hL.2
      rw [h2 _ (by omega) (by omega)] at hm
      cases hm
  · have hL : isL c g := ⟨hc, h1, by omega⟩
    have hx : x ∈ ls c g := by rw [h3]; simp
    obtain ⟨hp, hl⟩ := (i.rep.mem c g hL x).1 hx
    have e : x = p := by omega
    subst e
    rcases i.pg x hp.1 hp.2 with f | ⟨c', m, f⟩
    · have := f.linked; omega
    · have hl' := f.linked; have hu := f.used; have hlf := f.left; have := popN_le m (slotsC c').toNat; have := slots_pow f.cls; have hc' := f.cls
      by_cases z : cw L w x = 0
      · rw [if_pos z] at hl'; omega
      · rw [if_neg z] at hl'
        have e1 : c' = c := by omega
        subst e1
        have e2 : cw L w x = g := by omega
        refine .inr ⟨hp, ⟨m, f⟩, by omega, by rw [e2]; exact hx, fun q q0 q1 hk => ?_⟩
        rcases key q q0 q1 hk with z | ⟨hL', hm⟩
        · exact .inl z
        · refine .inr (Int.not_lt.1 fun hlt => ?_)
          have := hL'.2
          rw [h5 _ (by omega) (by omega)] at hm
          cases hm
theorem find_free {w : List Int} {r : Int} (h : FindR L w 1 1 r) : (r = -1 ∧ ∀ q, 0 ≤ q → q < L.c.Pages → kw L w q ≠ 0) ∨ ((0 ≤ r ∧ r < L.c.Pages) ∧ kw L w r = 0) := by
  unfold FindR at h
  rw [if_pos (by omega)] at h
  rcases h with ⟨h0, h | ⟨h1, h2, h3, _⟩⟩ | ⟨_, ⟨h1, h2⟩ | ⟨h1, h2, h3, _⟩⟩
  · omega
  · have : knd L.at_1 L.c.Pages w r = 0 := (h3.all r (by omega) (by omega)).1
    rw [knd_in ⟨h1, h2⟩] at this
    exact .inr ⟨⟨h1, h2⟩, this⟩
  · refine .inl ⟨h1, fun q q0 q1 e => h2 q q0 q1 ⟨by omega, by omega, fun j j0 j1 => ?_⟩⟩
    have : j = q := by omega
    subst this
    show knd L.at_1 L.c.Pages w j = 0
    rw [knd_in ⟨q0, q1⟩]; exact e
  · have : knd L.at_1 L.c.Pages w r = 0 := h3.all r (by omega) (by omega)
    rw [knd_in ⟨h1, h2⟩] at this
    exact .inr ⟨⟨h1, h2⟩, this⟩
inductive GrabS (L : ya) (ls : Int → Int → List Int) (w : List Int) (c : Int) : Int → Bool → List Int → Prop
  | no : (¬ (0 ≤ c ∧ c < 5) ∨ (firstF ls c 1 (slotsC c).toNat = -1 ∧ ∀ q, 0 ≤ q → q < L.c.Pages → kw L w q ≠ 0)) → GrabS L ls w c 0 false w
  | old {p : Int} {m : Nat} {i : Int} : 0 ≤ c ∧ c < 5 → 0 ≤ p → firstF ls c 1 (slotsC c).toNat = p → bw L w p = m → IsFirst m (slotsC c).toNat i → 0 ≤ i →
      GrabS L ls w c (L.at_10 + p * 32 + i * sizeC c) true (turnW L (unl L ls w p c (cw L w p)) p c ((m + 2 ^ i.toNat : Nat) : Int) (cw L w p - 1))
  | new {p : Int} {u : List Int} : 0 ≤ c ∧ c < 5 → firstF ls c 1 (slotsC c).toNat = -1 → FindR L w 1 1 p → 0 ≤ p → TakeW L w u p 1 (c + 1) →
      GrabS L ls w c (L.at_10 + p * 32) true (turnW L (u.set (L.at_2 + p).toNat (slotsC c)) p c 1 (slotsC c - 1))
theorem GrabS.uniq {w : List Int} {c a a' : Int} {b b' : Bool} {x x' : List Int} (h : GrabS L ls w c a b x) (h' : GrabS L ls w c a' b' x') : a = a' ∧ b = b' ∧ x = x' := by
  cases h with
  | no h =>
    cases h' with
    | no _ => exact ⟨rfl, rfl, rfl⟩
    | old hc hp hf _ _ _ => rcases h with h | ⟨h, _⟩ <;> omega
    | new hc hf hr hp _ =>
      rcases h with h | ⟨_, h⟩
      · omega
      · rcases find_free hr with ⟨e, _⟩ | ⟨⟨e1, e2⟩, e3⟩
        · omega
        · exact (h _ e1 e2 e3).elim
  | @old p m i hc hp hf hb hi h0 =>
    cases h' with
    | no h => rcases h with h | ⟨h, _⟩ <;> omega
    | @old p' m' i' _ _ hf' hb' hi' _ =>
      have e1 : p = p' := by omega
      subst e1
      have e2 : m = m' := by omega
      subst e2
      have e3 := hi.uniq hi'
      subst e3
      exact ⟨rfl, rfl, rfl⟩
    | new _ hf' _ _ _ => omega
  | @new p u hc hf hr hp ht =>
    cases h' with
    | no h =>
      rcases h with h | ⟨_, h⟩
      · omega
      · rcases find_free hr with ⟨e, _⟩ | ⟨⟨e1, e2⟩, e3⟩
        · omega
        · exact (h _ e1 e2 e3).elim
    | old _ _ hf' _ _ _ => omega
    | @new p' u' _ _ hr' _ ht' =>
      have e1 := hr.uniq hr'
      subst e1
      have e2 : u = u' := ht.ran.uniq ht'.ran
      subst e2
      exact ⟨rfl, rfl, rfl⟩
theorem new_page {w u : List Int} {p c : Int} (h : LayOK L) (hn : L.at_11 ≤ (w.length : Int)) (hp : 0 ≤ p ∧ p < L.c.Pages) (hc : 0 ≤ c ∧ c < 5) (t : TakeW L w u p 1 (c + 1)) :
    u.length = w.length ∧ ∀ b, L.at_1 ≤ b → wd (u.set (L.at_2 + p).toNat (slotsC c)) b = if b = L.at_1 + p then c + 1 else if b = L.at_2 + p then slotsC c else if b = L.at_3 + p then 0 else wd w b := by
  have g := h.geo11; have hpg := h.pages; have gk := h.geoK
  have hl := t.len
  have he : (ensM w L.c.Pages L.at_0 p 1).2.length = w.length := by unfold ensM; exact ensG_len ..
  have r := t.ran
  have h6 : ¬ (c + 1 = 6) := by omega
  rw [if_neg h6] at r
  have e : u = setP L.at_1 L.c.Pages (ensM w L.c.Pages L.at_0 p 1).2 p (c + 1) 0 := by
    have z := Ran.zero L.at_1 L.c.Pages (setP L.at_1 L.c.Pages (ensM w L.c.Pages L.at_0 p 1).2 p (c + 1) 0) (p + 1) 7
    exact r.uniq z
  refine ⟨hl, fun b hb => ?_⟩
  rw [wd_set (by omega) (by omega), e, setP_wd (GeoKL h (by rw [he]; exact hn)) hp (by omega), ens_off (by omega) (by omega)]
  repeat' split
  all_goals first | rfl | omega
theorem isFirst_ge {m n : Nat} {i : Int} (hi : IsFirst m n i) (hp : popN m n < n) : 0 ≤ i ∧ i < n ∧ m.testBit i.toNat = false := by
  rcases hi with ⟨_, h⟩ | ⟨h1, h2, h3, _⟩
  · have := popN_all h; omega
  · exact ⟨h1, h2, h3⟩
theorem bit_lt {m n : Nat} {i : Int} (hm : m < 2 ^ n) (hi : 0 ≤ i ∧ i < n) (hb : m.testBit i.toNat = false) : m + 2 ^ i.toNat < 2 ^ n := by
  rw [← or_bit hb]
  exact Nat.or_lt_two_pow hm (Nat.pow_lt_pow_right (by decide) (by omega))
theorem GrabS.inv {w x : List Int} {c a : Int} {b : Bool} (h : LayOK L) (hn : L.at_11 ≤ (w.length : Int)) (i : Inv11 L w inn ls) (s : GrabS L ls w c a b x) : x.length = w.length ∧ ∃ inn' ls', Inv11 L x inn' ls' := by
  have g := h.geo11; have hpg := h.pages
  cases s with
  | no _ => exact ⟨rfl, _, _, i⟩
  | @old p m j hc hp hf hb hj h0 =>
    rcases first_cls i hc hf with ⟨e, _⟩ | ⟨hp, ⟨m', f⟩, h1, _, _⟩
    · omega
    · have e : m' = m := by have := f.bits; omega
      subst e
      obtain ⟨s1, s2, s3⟩ := slots_pow hc
      have hlf := f.left
      obtain ⟨_, j2, j3⟩ := isFirst_ge hj (by omega)
      obtain ⟨ls', r1, hlen, hoff⟩ := cls_rep h hn i.rep hp f
      have hadd := popN_add (m := m') (k := (slotsC c).toNat) (i := j.toNat) (by omega) j3
      refine ⟨by rw [turnW_len, hlen], turn_inv h hn hp (fun q h0 h1 _ => i.pg q h0 h1) r1 hlen hoff hc f.kind (bit_lt f.lt ⟨h0, j2⟩ j3) (by omega)⟩
  | @new p u hc hf hr hp ht =>
    rcases find_free hr with ⟨e, _⟩ | ⟨hp, hk⟩
    · omega
    · obtain ⟨hl, hw⟩ := new_page h hn hp hc ht
      obtain ⟨s1, s2, s3⟩ := slots_pow hc
      generalize hv : u.set (L.at_2 + p).toNat (slotsC c) = v at *
      have hvl : v.length = w.length := by rw [← hv, List.length_set, hl]
      have f : FreeOK L w inn p := by
        rcases i.pg p hp.1 hp.2 with f | ⟨c', m, f⟩
        · exact f
        · have := f.kind; have := f.cls; omega
      have e0 : inn.set p.toNat 0 = inn := wd_ext (by simp) (fun b hb => by
        have := i.rep.len
        rw [wd_set (by omega) hb]
        split
        · rename_i e; rw [e, f.linked]
        · rfl)
      have rv : RepW L.at_4 L.c.Pages v inn ls := i.rep.congr (by omega) (by omega) (fun b h0 h1 => by rw [hw b (by omega), if_neg (by omega), if_neg (by omega), if_neg (by omega)])
      have hb1 : popN 1 (slotsC c).toNat = 1 := by
        have := popN_add (m := 0) (k := (slotsC c).toNat) (i := 0) (by omega) (by simp)
        rw [popN_zero] at this
        exact this
      refine ⟨by rw [turnW_len, hvl], turn_inv (w := v) (w1 := v) (inn := inn) (ls1 := ls) (m := 1) h (by omega) hp (fun q h0 h1 hq => ?_) (by rw [e0]; exact rv) rfl (fun _ _ _ => rfl) hc ?_ (Nat.one_lt_two_pow (by omega)) (by omega)⟩
      · have e1 : kw L v q = kw L w q := by unfold kw; rw [hw _ (by omega), if_neg (by omega), if_neg (by omega), if_neg (by omega)]
        have e2 : cw L v q = cw L w q := by unfold cw; rw [hw _ (by omega), if_neg (by omega), if_neg (by omega), if_neg (by omega)]
        have e3 : bw L v q = bw L w q := by unfold bw; rw [hw _ (by omega), if_neg (by omega), if_neg (by omega), if_neg (by omega)]
        rcases i.pg q h0 h1 with f | ⟨c', m', f⟩
        · exact .inl ⟨e1.trans f.kind, e3.trans f.bits, e2.trans f.left, f.linked⟩
        · exact .inr ⟨c', m', f.cls, e1.trans f.kind, e3.trans f.bits, f.lt, e2.trans f.left, by rw [e2]; exact f.used, by rw [e2]; exact f.linked⟩
      · unfold kw; rw [hw _ (by omega), if_pos rfl]
end Go.Rx
end

section
namespace Go.Rx
variable {L : ya} {nw : Nat} {cur u inn : List Int} {ls : Int → Int → List Int}
theorem mul_size {c i : Int} (hc : 0 ≤ c ∧ c < 5) (hi : 0 ≤ i ∧ i < slotsC c) : 0 ≤ i * sizeC c ∧ i * sizeC c + sizeC c ≤ 32 := by
  have e : c = 0 ∨ c = 1 ∨ c = 2 ∨ c = 3 ∨ c = 4 := by omega
  rcases e with rfl | rfl | rfl | rfl | rfl <;> simp [sizeC, slotsC] at * <;> omega
theorem grab_core {x inn1 : List Int} {ls1 : Int → Int → List Int} {p c : Int} {m : Nat} (ho : y1g nw cur L c = some (L, p, c, true, x)) (v : VOK L nw x) (r : RepW L.at_4 L.c.Pages x inn ls) (hp : 0 ≤ p ∧ p < L.c.Pages)
    (hc : 0 ≤ c ∧ c < 5) (hk : kw L x p = c + 1) (hb : bw L x p = m) (hm : m < 2 ^ (slotsC c).toNat) (hlt : popN m (slotsC c).toNat < (slotsC c).toNat) (hcw : cw L x p = slotsC c - popN m (slotsC c).toNat)
    (r1 : RepW L.at_4 L.c.Pages (unl L ls x p c (cw L x p)) inn1 ls1) (hlen : (unl L ls x p c (cw L x p)).length = x.length)
    (hoff : ∀ b, 0 ≤ b → (b < L.at_4 ∨ L.at_4 + 2 * L.c.Pages + 62 ≤ b) → wd (unl L ls x p c (cw L x p)) b = wd x b) :
    ∃ i, IsFirst m (slotsC c).toNat i ∧ 0 ≤ i ∧ y01 nw cur L c = some (L.at_10 + p * 32 + i * sizeC c, true, turnW L (unl L ls x p c (cw L x p)) p c ((m + 2 ^ i.toNat : Nat) : Int) (cw L x p - 1)) := by
  have g := v.lay.geo11
  obtain ⟨s1, s2, s3⟩ := slots_pow hc
  have h4 := bits_lt hm s1
  obtain ⟨i, e1, e2⟩ := First_is (m := m) (n := (slotsC c).toNat) h4 s1
  obtain ⟨i0, i1, i2⟩ := isFirst_ge e2 hlt
  rw [s3] at e1
  refine ⟨i, e2, i0, ?_⟩
  unfold y01
  rw [ho, Option.bind_some]
  simp only [cond_true]
  have hmul := mul_size hc (i := i) ⟨i0, by omega⟩
  have hsz := sizeC_in hc
  rw [bits_eq v hp, Option.bind_some, Slots_eq, Option.bind_some, hb, e1, Option.bind_some, Option.bind_some, Set_eq h4 ⟨i0, by omega⟩ i2, Option.bind_some, left_eq v hp, Option.bind_some, wrap_id (by omega) (by omega), pturn_eq v r hp hc hk r1 hlen hoff, Option.bind_some,
    Addr_eq v.lay, Option.bind_some, Size_eq, Option.bind_some]
  rw [show (if c = 0 then 1 else if c = 1 then 2 else if c = 2 then 4 else if c = 3 then 8 else if c = 4 then 16 else 0) = sizeC c from rfl]
  unfold lAddr
  rw [if_pos hp, wrap_id (x := i * sizeC c) (by omega) (by omega), wrap_id (by omega) (by omega)]
theorem pGrab_eq (v : VOK L nw cur) (i : Inv11 L cur inn ls) (c : Int) : ∃ a b x, y01 nw cur L c = some (a, b, x) ∧ GrabS L ls cur c a b x := by
  have g := v.lay.geo11
  have hn : L.at_11 ≤ (cur.length : Int) := by have := v.len; have := v.all; omega
  by_cases hc : 0 ≤ c ∧ c < 5
  rotate_left
  · have ho : ∃ L0, y1g nw cur L c = some (L0, 0, 0, false, cur) := by
      unfold y1g
      rw [Size_eq, Option.bind_some, show (if c = 0 then 1 else if c = 1 then 2 else if c = 2 then 4 else if c = 3 then 8 else if c = 4 then 16 else 0) = sizeC c from rfl, sizeC_no hc]
      exact ⟨_, rfl⟩
    obtain ⟨L0, ho⟩ := ho
    refine ⟨_, _, _, ?_, .no (.inl hc)⟩
    unfold y01
    rw [ho, Option.bind_some]
    rfl
  obtain ⟨z1, z2, z3⟩ := sizeC_in hc
  obtain ⟨s1, s2, s3⟩ := slots_pow hc
  have hsz : (if c = 0 then 1 else if c = 1 then 2 else if c = 2 then 4 else if c = 3 then 8 else if c = 4 then 16 else 0) = sizeC c := rfl
  rcases first_cls i hc rfl with ⟨hf, _⟩ | ⟨hp, ⟨m, f⟩, h1, hmem, _⟩
  · obtain ⟨p, e1, e2⟩ := eFind_eq v 1 1
    rcases find_free e2 with ⟨e3, e4⟩ | ⟨hp, hk⟩
    · have hno : ¬ MayTake L cur p 1 (c + 1) := fun h => by
        have := h.2.2.span
        omega
      have ho : ∃ L0, y1g nw cur L c = some (L0, 0, 0, false, cur) := by
        unfold y1g
        rw [Size_eq, Option.bind_some, hsz, beq_eq_false_iff_ne.2 (show sizeC c ≠ 0 by omega), cond_false, pFirst_eq v (ls := ls) (fun f k => i.rep.lst _ _ k), Option.bind_some, hf, decide_eq_false (by omega), cond_false, e1, Option.bind_some, wrap_id (by omega) (by omega), eTake_no v hno]
        exact ⟨_, rfl⟩
      obtain ⟨L0, ho⟩ := ho
      refine ⟨_, _, _, ?_, .no (.inr ⟨hf, e4⟩)⟩
      unfold y01
      rw [ho, Option.bind_some]
      rfl
    · have hyes : MayTake L cur p 1 (c + 1) := ⟨by omega, fun _ => rfl, ⟨by omega, fun j j0 j1 => by
        have : p + j = p := by omega
        rw [this]; exact hk⟩⟩
      obtain ⟨u, t1, t2⟩ := eTake_yes v hyes (by have := v.lay.pages; unfold I64; omega)
      obtain ⟨hl, hw⟩ := new_page v.lay hn hp hc t2
      have ho : y1g nw cur L c = some (L, p, c, true, u.set (L.at_2 + p).toNat (slotsC c)) := by
        unfold y1g
        rw [Size_eq, Option.bind_some, hsz, beq_eq_false_iff_ne.2 (show sizeC c ≠ 0 by omega), cond_false, pFirst_eq v (ls := ls) (fun f k => i.rep.lst _ _ k), Option.bind_some, hf, decide_eq_false (by omega), cond_false, e1, Option.bind_some, wrap_id (by omega) (by omega), t1, Option.bind_some]
        simp only [Bool.not_true, cond_false]
        rw [Count_eq v.lay, Option.bind_some, Slots_eq, Option.bind_some, lPg_in hp, (page_at v hp).2.1]
        rfl
      have f : FreeOK L cur inn p := by
        rcases i.pg p hp.1 hp.2 with f | ⟨c', m, f⟩
        · exact f
        · have := f.kind; have := f.cls; omega
      have ec : cw L (u.set (L.at_2 + p).toNat (slotsC c)) p = slotsC c := by unfold cw; rw [hw _ (by omega), if_neg (by omega), if_pos rfl]
      have ek : kw L (u.set (L.at_2 + p).toNat (slotsC c)) p = c + 1 := by unfold kw; rw [hw _ (by omega), if_pos rfl]
      have eb : bw L (u.set (L.at_2 + p).toNat (slotsC c)) p = ((0 : Nat) : Int) := by unfold bw; rw [hw _ (by omega), if_neg (by omega), if_neg (by omega), if_pos rfl]; rfl
      have en : unl L ls (u.set (L.at_2 + p).toNat (slotsC c)) p c (slotsC c) = u.set (L.at_2 + p).toNat (slotsC c) := by
        unfold unl
        rw [if_neg]
        rintro ⟨hL, hm⟩
        have := ((i.rep.mem _ _ hL p).1 hm).2
        have := f.linked
        omega
      have rv : RepW L.at_4 L.c.Pages (u.set (L.at_2 + p).toNat (slotsC c)) inn ls := i.rep.congr (by omega) (by omega) (fun b h0 h1 => by rw [hw b (by omega), if_neg (by omega), if_neg (by omega), if_neg (by omega)])
      have vv : VOK L nw (u.set (L.at_2 + p).toNat (slotsC c)) := ⟨v.lay, by rw [List.length_set, hl]; exact v.len, v.all⟩
      have hz := popN_zero (slotsC c).toNat
      obtain ⟨j, j1, j2, j3⟩ := grab_core (inn1 := inn) (ls1 := ls) ho vv rv hp hc ek eb (Nat.two_pow_pos _) (by omega) (by rw [ec]; omega) (by rw [ec, en]; exact rv) (by rw [ec, en]) (fun b _ _ => by rw [ec, en])
      have ej : j = 0 := j1.uniq (.inr ⟨by omega, by omega, by simp, fun k hk => by omega⟩)
      subst ej
      rw [ec, en] at j3
      refine ⟨_, _, _, j3, ?_⟩
      have := GrabS.new (w := cur) (ls := ls) hc hf e2 hp.1 t2
      rw [show L.at_10 + p * 32 + 0 * sizeC c = L.at_10 + p * 32 by omega]
      exact this
  · have hlf := f.left
    obtain ⟨ls', r1, hlen, hoff⟩ := cls_rep v.lay hn i.rep hp f
    generalize hpp : firstF ls c 1 (slotsC c).toNat = p at *
    have ho : y1g nw cur L c = some (L, p, c, true, cur) := by
      unfold y1g
      rw [Size_eq, Option.bind_some, hsz, beq_eq_false_iff_ne.2 (show sizeC c ≠ 0 by omega), cond_false, pFirst_eq v (ls := ls) (fun f k => i.rep.lst _ _ k), Option.bind_some, hpp, decide_eq_true (show p ≥ 0 by omega), cond_true]
    obtain ⟨j, j1, j2, j3⟩ := grab_core ho v i.rep hp hc f.kind f.bits f.lt (by omega) hlf r1 hlen hoff
    exact ⟨_, _, _, j3, .old hc hp.1 hpp f.bits j1 j2⟩
end Go.Rx
end

noncomputable section
namespace Go.Rx
open Go.Proofs
set_option maxRecDepth 100000
set_option maxHeartbeats 4000000
def y3d (l2 : yf) (a : Int) (w : List Int) : Option (Int × Bool) :=
  ((y57 l2 a).bind fun y0 => (bif (!y0.2.2) then some (0, false) else ((y3x l2 y0.1).bind fun y1 => (bif (inR y1 w.length) then (bif (inR (offs y1 0) w.length) then ((y3f (IntKind.i64.wrap (w.getD (offs y1 0).toNat 0 - 1))).bind fun y2 => (bif (y2 == 0) then some (0, false) else (bif (!y2 == 0) then (bif (Int.tmod y0.2.1 y2 != 0) then some (0, false) else (bif (!y2 == 0) then ((y1l l2 y0.1).bind fun y3 => (bif (inR y3 w.length) then (bif (inR (offs y3 0) w.length) then ((y3y (w.getD (offs y3 0).toNat 0) (IntKind.i64.wrap (Int.tdiv y0.2.1 y2))).bind fun y4 => (bif (!y4) then some (0, false) else some ((IntKind.i64.wrap (w.getD (offs y1 0).toNat 0 - 1)), true))) else none) else none)) else none)) else none))) else none) else none))))
def y3p (l2 : yf) (c : Int) (w : List Int) : Option Bool :=
  ((y51 l2 c w).bind fun y0 => some (decide (y0 ≥ 0)))
def y98 (l2 : yf) (c : Int) (w : List Int) (n p : Int) : Option ((Int × Int) ⊕ Int) :=
  (bif (decide (p < l2.C.Pages)) then (bif (decide (c ≥ 0)) then (bif (decide (c < 5)) then ((y3x l2 p).bind fun y0 => (bif (inR y0 w.length) then (bif (inR (offs y0 0) w.length) then (bif (w.getD (offs y0 0).toNat 0 == IntKind.i64.wrap (c + 1)) then ((y3i c).bind fun y1 => ((y1l l2 p).bind fun y2 => (bif (inR y2 w.length) then (bif (inR (offs y2 0) w.length) then ((y3i c).bind fun y3 => ((y99 (w.getD (offs y2 0).toNat 0) y3).bind fun y4 => some (.inl ((IntKind.i64.wrap (IntKind.i64.wrap (n + y1) - y4)), (IntKind.i64.wrap (p + 1)))))) else none) else none))) else some (.inl (n, (IntKind.i64.wrap (p + 1))))) else none) else none)) else some (.inl (n, (IntKind.i64.wrap (p + 1))))) else some (.inl (n, (IntKind.i64.wrap (p + 1))))) else some (.inr n))
def yed (l2 : yf) (c : Int) (w : List Int) (s : Int × Int) : Option Int :=
  loopO (fun s => y98 l2 c w s.1 s.2) s
def y4b (l2 : yf) (c : Int) (w : List Int) : Option Int :=
  (yed l2 c w (0, 0))
def y3o (l2 : yf) (c : Int) (w : List Int) : Option (Int × Bool × (List Int)) :=
  ((y3f c).bind fun y0 => (bif (y0 == 0) then some (0, false, w) else ((y51 l2 c w).bind fun y1 => (bif (decide (y1 < 0)) then ((y8t l2 1 1 w).bind fun y2 => (bif (decide (y2 < 0)) then some (0, false, w) else ((y9s l2 y2 1 (IntKind.i64.wrap (c + 1)) w).bind fun y3 => ((y1n l2 y2).bind fun y4 => ((y3i c).bind fun y5 => (bif (inR y4 y3.2.length) then (bif (inR (offs y4 0) y3.2.length) then ((y1l l2 y2).bind fun y6 => (bif (inR y6 (List.length (List.set y3.2 (offs y4 0).toNat y5))) then (bif (inR (offs y6 0) (List.length (List.set y3.2 (offs y4 0).toNat y5))) then ((y3i c).bind fun y7 => ((y55 (List.getD (List.set y3.2 (offs y4 0).toNat y5) (offs y6 0).toNat 0) y7).bind fun y8 => ((y1l l2 y2).bind fun y9 => ((y1l l2 y2).bind fun y10 => (bif (inR y10 (List.length (List.set y3.2 (offs y4 0).toNat y5))) then (bif (inR (offs y10 0) (List.length (List.set y3.2 (offs y4 0).toNat y5))) then ((y4n (List.getD (List.set y3.2 (offs y4 0).toNat y5) (offs y10 0).toNat 0) y8).bind fun y11 => (bif (inR y9 (List.length (List.set y3.2 (offs y4 0).toNat y5))) then (bif (inR (offs y9 0) (List.length (List.set y3.2 (offs y4 0).toNat y5))) then ((y1n l2 y2).bind fun y12 => (bif (inR y12 (List.length (List.set (List.set y3.2 (offs y4 0).toNat y5) (offs y9 0).toNat y11))) then (bif (inR (offs y12 0) (List.length (List.set (List.set y3.2 (offs y4 0).toNat y5) (offs y9 0).toNat y11))) then (bif (inR y12 (List.length (List.set (List.set y3.2 (offs y4 0).toNat y5) (offs y9 0).toNat y11))) then (bif (inR (offs y12 0) (List.length (List.set (List.set y3.2 (offs y4 0).toNat y5) (offs y9 0).toNat y11))) then ((y1n l2 y2).bind fun y13 => (bif (inR y13 (List.length (List.set (List.set (List.set y3.2 (offs y4 0).toNat y5) (offs y9 0).toNat y11) (offs y12 0).toNat (IntKind.i64.wrap (List.getD (List.set (List.set y3.2 (offs y4 0).toNat y5) (offs y9 0).toNat y11) (offs y12 0).toNat 0 - 1))))) then (bif (inR (offs y13 0) (List.length (List.set (List.set (List.set y3.2 (offs y4 0).toNat y5) (offs y9 0).toNat y11) (offs y12 0).toNat (IntKind.i64.wrap (List.getD (List.set (List.set y3.2 (offs y4 0).toNat y5) (offs y9 0).toNat y11) (offs y12 0).toNat 0 - 1))))) then ((y45 l2 y2 c (List.getD (List.set (List.set (List.set y3.2 (offs y4 0).toNat y5) (offs y9 0).toNat y11) (offs y12 0).toNat (IntKind.i64.wrap (List.getD (List.set (List.set y3.2 (offs y4 0).toNat y5) (offs y9 0).toNat y11) (offs y12 0).toNat 0 - 1))) (offs y13 0).toNat 0) (List.set (List.set (List.set y3.2 (offs y4 0).toNat y5) (offs y9 0).toNat y11) (offs y12 0).toNat (IntKind.i64.wrap (List.getD (List.set (List.set y3.2 (offs y4 0).toNat y5) (offs y9 0).toNat y11) (offs y12 0).toNat 0 - 1)))).bind fun y14 => ((y4h l2 y2).bind fun y15 => ((y3f c).bind fun y16 => some ((IntKind.i64.wrap (y15 + IntKind.i64.wrap (y8 * y16))), true, y14.2)))) else none) else none)) else none) else none) else none) else none)) else none) else none)) else none) else none))))) else none) else none)) else none) else none)))))) else ((y1n l2 y1).bind fun y17 => (bif (inR y17 w.length) then (bif (inR (offs y17 0) w.length) then ((y54 l2 y1 c (w.getD (offs y17 0).toNat 0) w).bind fun y18 => ((y1l l2 y1).bind fun y19 => (bif (inR y19 y18.2.length) then (bif (inR (offs y19 0) y18.2.length) then ((y3i c).bind fun y20 => ((y55 (y18.2.getD (offs y19 0).toNat 0) y20).bind fun y21 => ((y1l l2 y1).bind fun y22 => ((y1l l2 y1).bind fun y23 => (bif (inR y23 y18.2.length) then (bif (inR (offs y23 0) y18.2.length) then ((y4n (y18.2.getD (offs y23 0).toNat 0) y21).bind fun y24 => (bif (inR y22 y18.2.length) then (bif (inR (offs y22 0) y18.2.length) then ((y1n l2 y1).bind fun y25 => (bif (inR y25 (List.length (List.set y18.2 (offs y22 0).toNat y24))) then (bif (inR (offs y25 0) (List.length (List.set y18.2 (offs y22 0).toNat y24))) then (bif (inR y25 (List.length (List.set y18.2 (offs y22 0).toNat y24))) then (bif (inR (offs y25 0) (List.length (List.set y18.2 (offs y22 0).toNat y24))) then ((y1n l2 y1).bind fun y26 => (bif (inR y26 (List.length (List.set (List.set y18.2 (offs y22 0).toNat y24) (offs y25 0).toNat (IntKind.i64.wrap (List.getD (List.set y18.2 (offs y22 0).toNat y24) (offs y25 0).toNat 0 - 1))))) then (bif (inR (offs y26 0) (List.length (List.set (List.set y18.2 (offs y22 0).toNat y24) (offs y25 0).toNat (IntKind.i64.wrap (List.getD (List.set y18.2 (offs y22 0).toNat y24) (offs y25 0).toNat 0 - 1))))) then ((y45 l2 y1 c (List.getD (List.set (List.set y18.2 (offs y22 0).toNat y24) (offs y25 0).toNat (IntKind.i64.wrap (List.getD (List.set y18.2 (offs y22 0).toNat y24) (offs y25 0).toNat 0 - 1))) (offs y26 0).toNat 0) (List.set (List.set y18.2 (offs y22 0).toNat y24) (offs y25 0).toNat (IntKind.i64.wrap (List.getD (List.set y18.2 (offs y22 0).toNat y24) (offs y25 0).toNat 0 - 1)))).bind fun y27 => ((y4h l2 y1).bind fun y28 => ((y3f c).bind fun y29 => some ((IntKind.i64.wrap (y28 + IntKind.i64.wrap (y21 * y29))), true, y27.2)))) else none) else none)) else none) else none) else none) else none)) else none) else none)) else none) else none))))) else none) else none))) else none) else none))))))
def y3w (l2 : yf) (a : Int) (w : List Int) : Option (Bool × (List Int)) :=
  ((y3d l2 a w).bind fun y0 => (bif (!y0.2) then some (false, w) else ((y57 l2 a).bind fun y1 => ((y1n l2 y1.1).bind fun y2 => (bif (inR y2 w.length) then (bif (inR (offs y2 0) w.length) then ((y54 l2 y1.1 y0.1 (w.getD (offs y2 0).toNat 0) w).bind fun y3 => ((y1l l2 y1.1).bind fun y4 => ((y1l l2 y1.1).bind fun y5 => (bif (inR y5 y3.2.length) then (bif (inR (offs y5 0) y3.2.length) then ((y3f y0.1).bind fun y6 => (bif (!y6 == 0) then ((y6l (y3.2.getD (offs y5 0).toNat 0) (IntKind.i64.wrap (Int.tdiv y1.2.1 y6))).bind fun y7 => (bif (inR y4 y3.2.length) then (bif (inR (offs y4 0) y3.2.length) then ((y1n l2 y1.1).bind fun y8 => (bif (inR y8 (List.length (List.set y3.2 (offs y4 0).toNat y7))) then (bif (inR (offs y8 0) (List.length (List.set y3.2 (offs y4 0).toNat y7))) then (bif (inR y8 (List.length (List.set y3.2 (offs y4 0).toNat y7))) then (bif (inR (offs y8 0) (List.length (List.set y3.2 (offs y4 0).toNat y7))) then ((y1n l2 y1.1).bind fun y9 => (bif (inR y9 (List.length (List.set (List.set y3.2 (offs y4 0).toNat y7) (offs y8 0).toNat (IntKind.i64.wrap (List.getD (List.set y3.2 (offs y4 0).toNat y7) (offs y8 0).toNat 0 + 1))))) then (bif (inR (offs y9 0) (List.length (List.set (List.set y3.2 (offs y4 0).toNat y7) (offs y8 0).toNat (IntKind.i64.wrap (List.getD (List.set y3.2 (offs y4 0).toNat y7) (offs y8 0).toNat 0 + 1))))) then ((y3i y0.1).bind fun y10 => (bif (List.getD (List.set (List.set y3.2 (offs y4 0).toNat y7) (offs y8 0).toNat (IntKind.i64.wrap (List.getD (List.set y3.2 (offs y4 0).toNat y7) (offs y8 0).toNat 0 + 1))) (offs y9 0).toNat 0 == y10) then ((y79 l2 y1.1 (List.set (List.set y3.2 (offs y4 0).toNat y7) (offs y8 0).toNat (IntKind.i64.wrap (List.getD (List.set y3.2 (offs y4 0).toNat y7) (offs y8 0).toNat 0 + 1)))).bind fun y11 => some (true, y11.2)) else ((y1n l2 y1.1).bind fun y12 => (bif (inR y12 (List.length (List.set (List.set y3.2 (offs y4 0).toNat y7) (offs y8 0).toNat (IntKind.i64.wrap (List.getD (List.set y3.2 (offs y4 0).toNat y7) (offs y8 0).toNat 0 + 1))))) then (bif (inR (offs y12 0) (List.length (List.set (List.set y3.2 (offs y4 0).toNat y7) (offs y8 0).toNat (IntKind.i64.wrap (List.getD (List.set y3.2 (offs y4 0).toNat y7) (offs y8 0).toNat 0 + 1))))) then ((y45 l2 y1.1 y0.1 (List.getD (List.set (List.set y3.2 (offs y4 0).toNat y7) (offs y8 0).toNat (IntKind.i64.wrap (List.getD (List.set y3.2 (offs y4 0).toNat y7) (offs y8 0).toNat 0 + 1))) (offs y12 0).toNat 0) (List.set (List.set y3.2 (offs y4 0).toNat y7) (offs y8 0).toNat (IntKind.i64.wrap (List.getD (List.set y3.2 (offs y4 0).toNat y7) (offs y8 0).toNat 0 + 1)))).bind fun y13 => some (true, y13.2)) else none) else none)))) else none) else none)) else none) else none) else none) else none)) else none) else none)) else none)) else none) else none)))) else none) else none)))))
attribute [local irreducible] Loop ex exF contK roundK retK at_ bodyOf mkEnv
end Go.Rx
end

section
namespace Go.Rx
open Go.Proofs
section
variable {c : yb} {w inn : List Int} {ls : Int → Int → List Int}
theorem rAddr_eq (h : RightC c) (p : Int) : y4h ⟨c⟩ p = some (lAddr (layC c) p) := by
  unfold y4h
  have hb := (layC_ok h).big; have ha := (layC_ok h).a11; have hp := h.pages
  have e0 : (layC c).c = c := rfl
  rw [e0] at ha
  simp only [rUser_eq h, Option.bind_some, rat_eq, lAddr, e0]
  by_cases x : 0 ≤ p
  · rw [decide_eq_true (show p ≥ 0 from x), cond_true]
    by_cases b : p < c.Pages
    · rw [decide_eq_true b, if_pos rfl, if_pos ⟨x, b⟩, wrap_id (x := 32 * p) (by omega) (by omega), wrap_id (by omega) (by omega), Int.mul_comm]
    · rw [decide_eq_false b, if_neg (by decide), if_neg (by omega)]
  · rw [decide_eq_false (show ¬ p ≥ 0 from x), cond_false, if_neg (by decide), if_neg (by omega)]
theorem rPlace_eq (h : RightC c) (a : Int) : y57 ⟨c⟩ a = some (lPlace (layC c) a) := by
  unfold y57
  have hb := (layC_ok h).big; have ha := (layC_ok h).a11; have hp := h.pages
  have e0 : (layC c).c = c := rfl
  rw [e0] at ha
  simp only [rUser_eq h, rWords_eq h, Option.bind_some, lPlace]
  by_cases x : a < (layC c).at_10
  · rw [decide_eq_true x, cond_true, if_neg (by omega)]
  · rw [decide_eq_false x, cond_false]
    by_cases b : a ≥ (layC c).at_11
    · rw [decide_eq_true b, cond_true, if_neg (by omega)]
    · rw [decide_eq_false b, cond_false, if_pos (by omega), wrap_id (x := a - (layC c).at_10) (by omega) (by omega), Int.tdiv_eq_ediv_of_nonneg (by omega), Int.tmod_eq_emod_of_nonneg (by omega), wrap_id (by omega) (by omega)]
theorem rSize_eq (q : Int) : y3f q = some (sizeC q) := by
  unfold y3f
  by_cases a : q < 0
  · rw [decide_eq_true a, cond_true, sizeC_no (by omega)]
  rw [decide_eq_false a, cond_false]
  by_cases b : q > 4
  · rw [decide_eq_true b, cond_true, sizeC_no (by omega)]
  rw [decide_eq_false b, cond_false]
  have e : q = 0 ∨ q = 1 ∨ q = 2 ∨ q = 3 ∨ q = 4 := by omega
  rcases e with rfl | rfl | rfl | rfl | rfl
  · exact loopO_end rfl
  · exact (loopO_go rfl).trans (loopO_end rfl)
  · exact (loopO_go rfl).trans ((loopO_go rfl).trans (loopO_end rfl))
  · exact (loopO_go rfl).trans ((loopO_go rfl).trans ((loopO_go rfl).trans (loopO_end rfl)))
  · exact (loopO_go rfl).trans ((loopO_go rfl).trans ((loopO_go rfl).trans ((loopO_go rfl).trans (loopO_end rfl))))
theorem rSlots3_eq (q : Int) : y3i q = some (slotsC q) := by
  unfold y3i
  by_cases a : q < 0
  · rw [decide_eq_true a, cond_true, slotsC_no (by omega)]
  rw [decide_eq_false a, cond_false]
  by_cases b : q > 4
  · rw [decide_eq_true b, cond_true, slotsC_no (by omega)]
  rw [decide_eq_false b, cond_false, rSize_eq, Option.bind_some]
  have e : q = 0 ∨ q = 1 ∨ q = 2 ∨ q = 3 ∨ q = 4 := by omega
  rcases e with rfl | rfl | rfl | rfl | rfl <;> rfl
theorem rpage_at (h : RightC c) (v : VOK (layC c) w.length w) {p : Int} (hp : 0 ≤ p ∧ p < c.Pages) :
    (y3x ⟨c⟩ p = some ((layC c).at_1 + p) ∧ y1n ⟨c⟩ p = some ((layC c).at_2 + p) ∧ y1l ⟨c⟩ p = some ((layC c).at_3 + p)) ∧
    (offs ((layC c).at_1 + p) 0 = (layC c).at_1 + p ∧ offs ((layC c).at_2 + p) 0 = (layC c).at_2 + p ∧ offs ((layC c).at_3 + p) 0 = (layC c).at_3 + p) ∧
    (inR ((layC c).at_1 + p) w.length = true ∧ inR ((layC c).at_2 + p) w.length = true ∧ inR ((layC c).at_3 + p) w.length = true) := by
  have g := v.lay.geo11; have hpg := h.pages
  have e0 : (layC c).c = c := rfl
  rw [e0] at g
  refine ⟨⟨?_, ?_, ?_⟩, ⟨offs_id (by omega), offs_id (by omega), offs_id (by omega)⟩, page_at v hp⟩
  · rw [rKind_eq h, lPg_in (L := layC c) hp]
  · rw [rCount_eq h, lPg_in (L := layC c) hp]
  · rw [rBits_eq h, lPg_in (L := layC c) hp]
noncomputable def grabT (c : yb) (p q : Int) (x : List Int) : Option (Int × Bool × List Int) :=
  ((y1l ⟨c⟩ p).bind fun y19 => (bif (inR y19 (List.length x)) then (bif (inR (offs y19 0) (List.length x)) then ((y3i q).bind fun y20 => ((y55 (List.getD x (Int.toNat (offs y19 0)) 0) y20).bind fun y21 => ((y1l ⟨c⟩ p).bind fun y22 => ((y1l ⟨c⟩ p).bind fun y23 => (bif (inR y23 (List.length x)) then (bif (inR (offs y23 0) (List.length x)) then ((y4n (List.getD x (Int.toNat (offs y23 0)) 0) y21).bind fun y24 => (bif (inR y22 (List.length x)) then (bif (inR (offs y22 0) (List.length x)) then ((y1n ⟨c⟩ p).bind fun y25 => (bif (inR y25 (List.length (List.set x (Int.toNat (offs y22 0)) y24))) then (bif (inR (offs y25 0) (List.length (List.set x (Int.toNat (offs y22 0)) y24))) then (bif (inR y25 (List.length (List.set x (Int.toNat (offs y22 0)) y24))) then (bif (inR (offs y25 0) (List.length (List.set x (Int.toNat (offs y22 0)) y24))) then ((y1n ⟨c⟩ p).bind fun y26 => (bif (inR y26 (List.length (List.set (List.set x (Int.toNat (offs y22 0)) y24) (Int.toNat (offs y25 0)) (IntKind.wrap IntKind.i64 (List.getD (List.set x (Int.toNat (offs y22 0)) y24) (Int.toNat (offs y25 0)) 0 - 1))))) then (bif (inR (offs y26 0) (List.length (List.set (List.set x (Int.toNat (offs y22 0)) y24) (Int.toNat (offs y25 0)) (IntKind.wrap IntKind.i64 (List.getD (List.set x (Int.toNat (offs y22 0)) y24) (Int.toNat (offs y25 0)) 0 - 1))))) then ((y45 ⟨c⟩ p q (List.getD (List.set (List.set x (Int.toNat (offs y22 0)) y24) (Int.toNat (offs y25 0)) (IntKind.wrap IntKind.i64 (List.getD (List.set x (Int.toNat (offs y22 0)) y24) (Int.toNat (offs y25 0)) 0 - 1))) (Int.toNat (offs y26 0)) 0) (List.set (List.set x (Int.toNat (offs y22 0)) y24) (Int.toNat (offs y25 0)) (IntKind.wrap IntKind.i64 (List.getD (List.set x (Int.toNat (offs y22 0)) y24) (Int.toNat (offs y25 0)) 0 - 1)))).bind fun y27 => ((y4h ⟨c⟩ p).bind fun y28 => ((y3f q).bind fun y29 => some (((IntKind.wrap IntKind.i64 (y28 + IntKind.wrap IntKind.i64 (y21 * y29))), (Bool.true), (Prod.snd y27)))))) else none) else none)) else none) else none) else none) else none)) else none) else none)) else none) else none))))) else none) else none))
theorem grabT_eq (h : RightC c) {x inn1 : List Int} {ls1 : Int → Int → List Int} {p q i : Int} {m : Nat} (v : VOK (layC c) x.length x) (r1 : RepW (layC c).at_4 c.Pages x inn1 ls1) (hz : wd inn1 p = 0) (hp : 0 ≤ p ∧ p < c.Pages)
    (hq : 0 ≤ q ∧ q < 5) (hb : bw (layC c) x p = m) (hm : m < 2 ^ (slotsC q).toNat) (hlt : popN m (slotsC q).toNat < (slotsC q).toNat) (hcw : cw (layC c) x p = slotsC q - popN m (slotsC q).toNat) (hi : IsFirst m (slotsC q).toNat i) :
    grabT c p q x = some ((layC c).at_10 + p * 32 + i * sizeC q, true, turnW (layC c) x p q ((m + 2 ^ i.toNat : Nat) : Int) (cw (layC c) x p - 1)) := by
  have g := v.lay.geo11; have hpg := h.pages; have hall := v.all
  have e0 : (layC c).c = c := rfl
  rw [e0] at g
  obtain ⟨s1, s2, s3⟩ := slots_pow hq
  have h4 := bits_lt hm s1
  obtain ⟨i0, i1, i2⟩ := isFirst_ge hi hlt
  have hmul := mul_size hq (i := i) ⟨i0, by omega⟩
  have hsz := sizeC_in hq
  obtain ⟨⟨_, k2, k3⟩, ⟨_, o2, o3⟩, _, r2, r3⟩ := rpage_at h v hp
  obtain ⟨r, f1, f2⟩ := rFirst04_is (m := m) (n := (slotsC q).toNat) h4 s1
  have er := f2.uniq hi
  subst er
  rw [s3] at f1
  have g3 : x.getD ((layC c).at_3 + p).toNat 0 = (m : Int) := hb
  generalize hn : cw (layC c) x p = n at *
  have w1 : ∀ b, 0 ≤ b → wd (x.set ((layC c).at_3 + p).toNat ((m + 2 ^ r.toNat : Nat) : Int)) b = if b = (layC c).at_3 + p then ((m + 2 ^ r.toNat : Nat) : Int) else wd x b := fun b hb => wd_set (by omega) hb
  have g2 : (x.set ((layC c).at_3 + p).toNat ((m + 2 ^ r.toNat : Nat) : Int)).getD ((layC c).at_2 + p).toNat 0 = n := by
    refine (w1 _ (by omega)).trans ?_
    rw [if_neg (by omega)]; exact hn
  have w2 : ∀ b, 0 ≤ b → wd ((x.set ((layC c).at_3 + p).toNat ((m + 2 ^ r.toNat : Nat) : Int)).set ((layC c).at_2 + p).toNat (n - 1)) b = if b = (layC c).at_2 + p then n - 1 else if b = (layC c).at_3 + p then ((m + 2 ^ r.toNat : Nat) : Int) else wd x b := fun b hb => by
    rw [wd_set (by rw [List.length_set]; omega) hb, w1 b hb]
  have g4 : ((x.set ((layC c).at_3 + p).toNat ((m + 2 ^ r.toNat : Nat) : Int)).set ((layC c).at_2 + p).toNat (n - 1)).getD ((layC c).at_2 + p).toNat 0 = n - 1 := by
    refine (w2 _ (by omega)).trans ?_
    rw [if_pos rfl]
  have vy : VOK (layC c) ((x.set ((layC c).at_3 + p).toNat ((m + 2 ^ r.toNat : Nat) : Int)).set ((layC c).at_2 + p).toNat (n - 1)).length ((x.set ((layC c).at_3 + p).toNat ((m + 2 ^ r.toNat : Nat) : Int)).set ((layC c).at_2 + p).toNat (n - 1)) := ⟨v.lay, rfl, by simpa using hall⟩
  have ry : RepW (layC c).at_4 c.Pages ((x.set ((layC c).at_3 + p).toNat ((m + 2 ^ r.toNat : Nat) : Int)).set ((layC c).at_2 + p).toNat (n - 1)) inn1 ls1 := r1.congr (by omega) (by omega) (fun b h0 h1 => by rw [w2 b (by omega), if_neg (by omega), if_neg (by omega)])
  unfold grabT
  simp only [k2, k3, o2, o3, r2, r3, g3, g2, rSlots3_eq, f1, rSet_eq h4 ⟨i0, by omega⟩ i2, Option.bind_some, List.length_set, cond_true]
  rw [show IntKind.wrap IntKind.i64 (n - 1) = n - 1 from wrap_id (by omega) (by omega), g4, rLink_eq h vy (xs := ls1 q (n - 1)) (fun k => ry.lst _ _ k) (fun k _ _ hm => by
    have := ((ry.mem _ _ k p).1 hm).2
    have := k.1; have := k.2; omega), Option.bind_some, rAddr_eq h, Option.bind_some, rSize_eq, Option.bind_some]
  unfold lAddr turnW
  rw [e0, if_pos hp, wrap_id (x := r * sizeC q) (by omega) (by omega), wrap_id (by omega) (by omega), if_neg (show ¬ n - 1 = slotsC q by omega)]
  by_cases hL : isL q (n - 1)
  · rw [if_pos ⟨hL, hp⟩, if_pos hL]
  · rw [if_neg (fun x => hL x.1), if_neg hL]
theorem rGrab_eq (h : RightC c) (v : VOK (layC c) w.length w) (i : Inv11 (layC c) w inn ls) (q : Int) : ∃ a b x, y3o ⟨c⟩ q w = some (a, b, x) ∧ GrabS (layC c) ls w q a b x := by
  have g := v.lay.geo11; have hpg := h.pages
  have e0 : (layC c).c = c := rfl
  rw [e0] at g
  have hn := v.all
  by_cases hq : 0 ≤ q ∧ q < 5
  rotate_left
  · refine ⟨_, _, _, ?_, .no (.inl hq)⟩
    unfold y3o
    rw [rSize_eq, Option.bind_some, sizeC_no hq]
    rfl
  obtain ⟨z1, z2, z3⟩ := sizeC_in hq
  obtain ⟨s1, s2, s3⟩ := slots_pow hq
  have hfst : y51 ⟨c⟩ q w = some (firstF ls q 1 (slotsC q).toNat) := rFirst_eq h v (fun f k => i.rep.lst _ _ k)
  rcases first_cls i hq rfl with ⟨hf, _⟩ | ⟨hp, ⟨m, f⟩, h1, hmem, _⟩
  · obtain ⟨p, e1, e2⟩ := r9Find_eq h v 1 1
    rcases find_free e2 with ⟨e3, e4⟩ | ⟨hp, hk⟩
    · refine ⟨_, _, _, ?_, .no (.inr ⟨hf, e4⟩)⟩
      unfold y3o
      rw [rSize_eq, Option.bind_some, beq_eq_false_iff_ne.2 (show sizeC q ≠ 0 by omega), cond_false, hfst, Option.bind_some, hf, decide_eq_true (by omega), cond_true, e1, Option.bind_some, decide_eq_true (by omega), cond_true]
    · have hyes : MayTake (layC c) w p 1 (q + 1) := ⟨by omega, fun _ => rfl, ⟨by omega, fun j j0 j1 => by
        have : p + j = p := by omega
        rw [this]; exact hk⟩⟩
      obtain ⟨u', _, t2⟩ := eTake_yes v hyes (by rw [e0] at hp; unfold I64; omega)
      obtain ⟨u, t1, t3⟩ := r9Take_yes h v hyes
      have eu := t3 u' t2
      subst eu
      obtain ⟨hl, hw⟩ := new_page v.lay hn hp hq t2
      have hpc : 0 ≤ p ∧ p < c.Pages := hp
      have vu : VOK (layC c) u.length u := ⟨v.lay, rfl, by rw [hl]; exact v.all⟩
      obtain ⟨⟨_, k2, k3⟩, ⟨_, o2, o3⟩, _, r2, r3⟩ := rpage_at h vu hpc
      have f : FreeOK (layC c) w inn p := by
        rcases i.pg p hp.1 hp.2 with f | ⟨c', m, f⟩
        · exact f
        · have := f.kind; have := f.cls; omega
      have ec : cw (layC c) (u.set ((layC c).at_2 + p).toNat (slotsC q)) p = slotsC q := by unfold cw; rw [hw _ (by omega), if_neg (by omega), if_pos rfl]
      have eb : bw (layC c) (u.set ((layC c).at_2 + p).toNat (slotsC q)) p = ((0 : Nat) : Int) := by unfold bw; rw [hw _ (by omega), if_neg (by omega), if_neg (by omega), if_pos rfl]; rfl
      have rv : RepW (layC c).at_4 c.Pages (u.set ((layC c).at_2 + p).toNat (slotsC q)) inn ls := i.rep.congr (by omega) (by rw [e0]; omega) (fun b h0 h1 => by rw [e0] at h1; rw [hw b (by omega), if_neg (by omega), if_neg (by omega), if_neg (by omega)])
      have hz := popN_zero (slotsC q).toNat
      have hi0 : IsFirst 0 (slotsC q).toNat 0 := .inr ⟨by omega, by omega, by simp, fun k hk => by omega⟩
      have vv : VOK (layC c) (u.set ((layC c).at_2 + p).toNat (slotsC q)).length (u.set ((layC c).at_2 + p).toNat (slotsC q)) := ⟨v.lay, rfl, by rw [List.length_set, hl]; exact v.all⟩
      have gt := grabT_eq h vv rv f.linked hpc hq eb (Nat.two_pow_pos _) (by omega) (by rw [ec]; omega) hi0
      rw [ec] at gt
      refine ⟨_, _, _, ?_, GrabS.new hq hf e2 hp.1 t2⟩
      have gt' : grabT c p q (u.set ((layC c).at_2 + p).toNat (slotsC q)) = some ((layC c).at_10 + p * 32, true, turnW (layC c) (u.set ((layC c).at_2 + p).toNat (slotsC q)) p q 1 (slotsC q - 1)) := by
        rw [gt, show (layC c).at_10 + p * 32 + 0 * sizeC q = (layC c).at_10 + p * 32 by omega]; rfl
      rw [← gt']
      unfold y3o
      rw [rSize_eq, Option.bind_some, beq_eq_false_iff_ne.2 (show sizeC q ≠ 0 by omega), cond_false, hfst, Option.bind_some, hf, decide_eq_true (by omega), cond_true, e1, Option.bind_some, decide_eq_false (by omega), cond_false, wrap_id (x := q + 1) (by omega) (by omega), t1, Option.bind_some,
        k2, Option.bind_some, rSlots3_eq, Option.bind_some]
      simp only [o2, r2, cond_true]
      unfold grabT
      simp only [k2, rSlots3_eq, rSize_eq]
  · have hlf := f.left
    have hn' : (layC c).at_11 ≤ (w.length : Int) := v.all
    obtain ⟨ls', r1, hlen, hoff⟩ := cls_rep v.lay hn' i.rep hp f
    generalize hpp : firstF ls q 1 (slotsC q).toNat = p at *
    have hpc : 0 ≤ p ∧ p < c.Pages := hp
    have hltp : popN m (slotsC q).toNat < (slotsC q).toNat := by omega
    obtain ⟨j, _, j1⟩ := First_is (m := m) (n := (slotsC q).toNat) (bits_lt f.lt s1) s1
    obtain ⟨j0, _, _⟩ := isFirst_ge j1 hltp
    have hil : (inn.length : Int) = c.Pages := i.rep.len
    have ecw : cw (layC c) (unl (layC c) ls w p q (cw (layC c) w p)) p = cw (layC c) w p := hoff _ (by omega) (.inl (by omega))
    have ebw : bw (layC c) (unl (layC c) ls w p q (cw (layC c) w p)) p = (m : Int) := (hoff _ (by omega) (.inl (by omega))).trans f.bits
    have vx : VOK (layC c) (unl (layC c) ls w p q (cw (layC c) w p)).length (unl (layC c) ls w p q (cw (layC c) w p)) := ⟨v.lay, rfl, by rw [hlen]; exact v.all⟩
    have gt := grabT_eq h vx r1 (by rw [wd_set (by omega) hp.1, if_pos rfl]) hpc hq ebw f.lt hltp (by rw [ecw]; exact hlf) j1
    rw [ecw] at gt
    refine ⟨_, _, _, ?_, GrabS.old hq hp.1 hpp f.bits j1 j0⟩
    rw [← gt]
    obtain ⟨⟨_, k2, k3⟩, ⟨_, o2, o3⟩, _, r2, r3⟩ := rpage_at h v hpc
    unfold y3o
    rw [rSize_eq, Option.bind_some, beq_eq_false_iff_ne.2 (show sizeC q ≠ 0 by omega), cond_false, hfst, Option.bind_some, decide_eq_false (by omega), cond_false, k2, Option.bind_some, r2, cond_true, o2, r2, cond_true]
    have eg : w.getD ((layC c).at_2 + p).toNat 0 = cw (layC c) w p := rfl
    rw [eg, rUnlink_eq h v (xs := ls q (cw (layC c) w p)) (fun k => i.rep.lst _ _ k), Option.bind_some]
    have e2 : (if isL q (cw (layC c) w p) ∧ p ∈ ls q (cw (layC c) w p) then (true, unlinkW (layC c).at_4 c.Pages w (hdI ((layC c).at_4 + 2 * c.Pages) q (cw (layC c) w p)) p) else (false, w)).2 = unl (layC c) ls w p q (cw (layC c) w p) := by unfold unl; split <;> rfl
    rw [e2]
    unfold grabT
    simp only [k2, rSize_eq]
end
end Go.Rx
end

section
namespace Go.Rx
open Go.Proofs
section
variable {c : yb} {w inn : List Int} {ls : Int → Int → List Int}
theorem rTaken_eq (h : RightC c) (v : VOK (layC c) w.length w) (i : Inv11 (layC c) w inn ls) (a : Int) :
    (∃ p q m j, Tk (layC c) w a p q m j ∧ ClsOK (layC c) w inn p q m ∧ y3d ⟨c⟩ a w = some (q, true)) ∨ ((∀ p q m j, ¬ Tk (layC c) w a p q m j) ∧ y3d ⟨c⟩ a w = some (0, false)) := by
  have g := v.lay.geo11
  have e0 : (layC c).c = c := rfl
  rw [e0] at g
  unfold y3d
  rw [rPlace_eq h, Option.bind_some]
  unfold lPlace
  by_cases hu : (layC c).at_10 ≤ a ∧ a < (layC c).at_11
  · rw [if_pos hu]
    simp only [Bool.not_true, cond_false]
    generalize hpd : (a - (layC c).at_10) / 32 = p
    have hp : 0 ≤ p ∧ p < c.Pages := by omega
    obtain ⟨⟨k1, k2, k3⟩, ⟨o1, o2, o3⟩, r1, r2, r3⟩ := rpage_at h v hp
    rw [k1, Option.bind_some, r1, cond_true, o1, r1, cond_true]
    have hkw : w.getD ((layC c).at_1 + p).toNat 0 = kw (layC c) w p := rfl
    rw [hkw]
    rcases i.pg p hp.1 hp.2 with f | ⟨q, m, f⟩
    · rw [f.kind, show IntKind.wrap .i64 (0 - 1) = -1 from rfl, rSize_eq, sizeC_no (by omega)]
      refine .inr ⟨fun p' c' m' j t => ?_, rfl⟩
      have := t.page; have := t.kind; have := t.cls
      rw [hpd] at *
      subst p'
      have := f.kind
      omega
    · have hc := f.cls
      obtain ⟨z1, z2, z3⟩ := sizeC_in hc
      obtain ⟨s1, s2, s3⟩ := slots_pow hc
      rw [f.kind, wrap_id (by omega) (by omega), show q + 1 - 1 = q by omega, rSize_eq, Option.bind_some, beq_eq_false_iff_ne.2 (show sizeC q ≠ 0 by omega)]
      simp only [Bool.not_false, cond_true, cond_false]
      have hx : 0 ≤ (a - (layC c).at_10) % 32 ∧ (a - (layC c).at_10) % 32 < 32 := by omega
      have same : ∀ p' c' m' j, Tk (layC c) w a p' c' m' j → p' = p ∧ c' = q ∧ m' = m := by
        intro p' c' m' j t
        have e1 : p' = p := t.page.trans hpd
        subst e1
        have := t.kind; have := f.kind
        have e3 : (m' : Int) = m := t.bits.symm.trans f.bits
        exact ⟨rfl, by omega, by omega⟩
      rw [Int.tmod_eq_emod_of_nonneg hx.1, Int.tdiv_eq_ediv_of_nonneg hx.1]
      by_cases hm : (a - (layC c).at_10) % 32 % sizeC q = 0
      · have hj : 0 ≤ (a - (layC c).at_10) % 32 / sizeC q ∧ (a - (layC c).at_10) % 32 / sizeC q < 32 := by
          have e : q = 0 ∨ q = 1 ∨ q = 2 ∨ q = 3 ∨ q = 4 := by omega
          rcases e with rfl | rfl | rfl | rfl | rfl <;> simp [sizeC] <;> omega
        have hbw : w.getD ((layC c).at_3 + p).toNat 0 = (m : Int) := f.bits
        rw [hm, show ((0 : Int) != 0) = false from rfl, cond_false, k3, Option.bind_some, r3, cond_true, o3, r3, cond_true, hbw, wrap_id (by omega) (by omega), rHas_eq (bits_lt f.lt s1), Option.bind_some]
        have hb : bitI m ((a - (layC c).at_10) % 32 / sizeC q) = m.testBit ((a - (layC c).at_10) % 32 / sizeC q).toNat := by unfold bitI; rw [decide_eq_true hj]; rfl
        rw [hb]
        cases ht : m.testBit ((a - (layC c).at_10) % 32 / sizeC q).toNat with
        | true => exact .inl ⟨p, q, m, _, ⟨hu, hpd.symm, hc, f.kind, f.bits, hm, rfl, ht⟩, f, rfl⟩
        | false =>
          refine .inr ⟨fun p' c' m' j t => ?_, rfl⟩
          obtain ⟨rfl, rfl, rfl⟩ := same p' c' m' j t
          have := t.is
          rw [t.num, ht] at this
          cases this
      · rw [bne_iff_ne.2 hm]
        refine .inr ⟨fun p' c' m' j t => ?_, rfl⟩
        obtain ⟨rfl, rfl, rfl⟩ := same p' c' m' j t
        exact hm t.mul
  · rw [if_neg hu]
    exact .inr ⟨fun p c m j t => hu t.user, rfl⟩
theorem rRoom_eq (h : RightC c) (v : VOK (layC c) w.length w) (i : Inv11 (layC c) w inn ls) (q : Int) : y3p ⟨c⟩ q w = some (decide (0 ≤ firstF ls q 1 (slotsC q).toNat)) := by
  unfold y3p
  rw [rFirst_eq h v (ls := ls) (fun f k => i.rep.lst _ _ k), Option.bind_some]
theorem rFree_eq (h : RightC c) (v : VOK (layC c) w.length w) (i : Inv11 (layC c) w inn ls) (q : Int) : y4b ⟨c⟩ q w = some (freeN (layC c) w q c.Pages.toNat) := by
  have hpg := h.pages
  have e0 : (layC c).c = c := rfl
  have key : ∀ d k : Nat, c.Pages.toNat - k = d → (k : Int) ≤ c.Pages → yed ⟨c⟩ q w (freeN (layC c) w q k, (k : Int)) = some (freeN (layC c) w q c.Pages.toNat) := by
    intro d
    induction d with
    | zero =>
      intro k hd hk
      have e : k = c.Pages.toNat := by omega
      subst e
      exact loopO_end (by simp only [y98, decide_eq_false (show ¬ ((c.Pages.toNat : Int) < c.Pages) by omega), cond_false])
    | succ d ih =>
      intro k hd hk
      have hp : 0 ≤ (k : Int) ∧ (k : Int) < c.Pages := by omega
      have hb := freeN_le (layC c) w q k
      have hb1 := freeN_le (layC c) w q (k + 1)
      refine (loopO_go (s' := (freeN (layC c) w q (k + 1), ((k + 1 : Nat) : Int))) ?_).trans (ih (k + 1) (by omega) (by omega))
      obtain ⟨⟨k1, k2, k3⟩, ⟨o1, o2, o3⟩, r1, r2, r3⟩ := rpage_at h v hp
      simp only [y98, decide_eq_true hp.2, cond_true]
      rw [wrap_id (x := (k : Int) + 1) (by omega) (by omega)]
      simp only [freeN]
      by_cases hc : 0 ≤ q ∧ q < 5
      · obtain ⟨z1, z2, z3⟩ := sizeC_in hc
        obtain ⟨s1, s2, s3⟩ := slots_pow hc
        have hkw : w.getD ((layC c).at_1 + (k : Int)).toNat 0 = kw (layC c) w k := rfl
        rw [decide_eq_true (show q ≥ 0 by omega), cond_true, decide_eq_true hc.2, cond_true, k1, Option.bind_some, r1, cond_true, o1, r1, cond_true, hkw, wrap_id (x := q + 1) (by omega) (by omega)]
        by_cases hk1 : kw (layC c) w k = q + 1
        · rw [beq_iff_eq.2 hk1, cond_true, if_pos ⟨hc, hk1⟩, rSlots3_eq, Option.bind_some, k3, Option.bind_some, r3, cond_true, o3, r3, cond_true, Option.bind_some]
          rcases i.pg k hp.1 hp.2 with f | ⟨c', m, f⟩
          · have := f.kind; omega
          · have e1 : c' = q := by have := f.kind; omega
            subst e1
            have hrd : w.getD ((layC c).at_3 + (k : Int)).toNat 0 = (m : Int) := f.bits
            have hbw : bw (layC c) w k = (m : Int) := f.bits
            have hpop := popN_le m (slotsC c').toNat
            rw [hrd, hbw, Int.toNat_natCast]
            have hcnt : y99 (m : Int) (slotsC c') = some (popN m (slotsC c').toNat : Int) := by
              have := rCount_is (bits_lt f.lt s1) s1
              rw [s3] at this
              exact this
            rw [hcnt, Option.bind_some, wrap_id (x := freeN (layC c) w c' k + slotsC c') (by omega) (by omega), wrap_id (by omega) (by omega)]
            have e2 : freeN (layC c) w c' k + slotsC c' - (popN m (slotsC c').toNat : Int) = freeN (layC c) w c' k + (slotsC c' - (popN m (slotsC c').toNat : Int)) := by omega
            rw [e2]
            rfl
        · rw [beq_eq_false_iff_ne.2 hk1, cond_false, if_neg (fun x => hk1 x.2), Int.add_zero]
          rfl
      · rw [if_neg (fun x => hc x.1), Int.add_zero]
        by_cases q0 : 0 ≤ q
        · rw [decide_eq_true (show q ≥ 0 from q0), cond_true, decide_eq_false (show ¬ q < 5 by omega), cond_false]
          rfl
        · rw [decide_eq_false (show ¬ q ≥ 0 from q0), cond_false]
          rfl
  exact key _ 0 rfl (by omega)
theorem setP_over {L : ya} (h : LayOK L) {w x : List Int} {p : Int} (hl : x.length = w.length) (hn : L.at_11 ≤ (w.length : Int)) (hp : 0 ≤ p ∧ p < L.c.Pages) (e : ∀ b, 0 ≤ b → b ≠ L.at_2 + p → b ≠ L.at_3 + p → wd x b = wd w b) :
    setP L.at_1 L.c.Pages x p 0 0 = setP L.at_1 L.c.Pages w p 0 0 := by
  have g := h.geo11
  refine wd_ext (by rw [setP_len, setP_len, hl]) (fun b hb => ?_)
  rw [setP_wd (GeoKL h (by rw [hl]; exact hn)) hp hb, setP_wd (GeoKL h hn) hp hb]
  split
  · rfl
  · split
    · rfl
    · split
      · rfl
      · exact e b hb (by omega) (by omega)
theorem rReturn_eq (h : RightC c) (v : VOK (layC c) w.length w) (i : Inv11 (layC c) w inn ls) (a : Int) : ∃ b x, y3w ⟨c⟩ a w = some (b, x) ∧ RetS (layC c) ls w a b x := by
  have g := v.lay.geo11
  have e0 : (layC c).c = c := rfl
  rw [e0] at g
  have hpg := h.pages
  unfold y3w
  rcases rTaken_eq h v i a with ⟨p, q, m, j, t, f, e⟩ | ⟨h1, e⟩
  rotate_left
  · rw [e, Option.bind_some]
    exact ⟨_, _, rfl, .no h1⟩
  rw [e, Option.bind_some]
  simp only [Bool.not_true, cond_false]
  obtain ⟨hp, hj, ha⟩ := t.more v.lay
  have hpc : 0 ≤ p ∧ p < c.Pages := hp
  obtain ⟨s1, s2, s3⟩ := slots_pow f.cls
  obtain ⟨z1, z2, z3⟩ := sizeC_in f.cls
  have hpop := popN_le m (slotsC q).toNat
  have hleft := f.left; have hused := f.used
  have hn : (layC c).at_11 ≤ (w.length : Int) := v.all
  obtain ⟨ls', r1', hlen, hoff⟩ := cls_rep v.lay hn i.rep hp f
  obtain ⟨⟨k1, k2, k3⟩, ⟨o1, o2, o3⟩, r1, r2, r3⟩ := rpage_at h v hpc
  have epl : lPlace (layC c) a = (p, (a - (layC c).at_10) % 32, true) := by
    unfold lPlace
    rw [if_pos t.user, t.page]
  have eg : w.getD ((layC c).at_2 + p).toNat 0 = cw (layC c) w p := rfl
  rw [rPlace_eq h, epl, Option.bind_some]
  simp only
  rw [k2, Option.bind_some, r2, cond_true, o2, r2, cond_true, eg, rUnlink_eq h v (xs := ls q (cw (layC c) w p)) (fun k => i.rep.lst _ _ k), Option.bind_some]
  have e2 : (if isL q (cw (layC c) w p) ∧ p ∈ ls q (cw (layC c) w p) then (true, unlinkW (layC c).at_4 c.Pages w (hdI ((layC c).at_4 + 2 * c.Pages) q (cw (layC c) w p)) p) else (false, w)).2 = unl (layC c) ls w p q (cw (layC c) w p) := by unfold unl; split <;> rfl
  rw [e2]
  have hRet := RetS.yes (ls := ls) t
  have hinn : (inn.length : Int) = c.Pages := i.rep.len
  have hz1 : wd (inn.set p.toNat 0) p = 0 := by rw [wd_set (by omega) hp.1, if_pos rfl]
  generalize hcn : cw (layC c) w p = n at *
  have r2u : (unl (layC c) ls w p q n).length = w.length := hlen
  have ecw : cw (layC c) (unl (layC c) ls w p q n) p = n := (hoff _ (by omega) (.inl (by omega))).trans hcn
  have ebw : (unl (layC c) ls w p q n).getD ((layC c).at_3 + p).toNat 0 = (m : Int) := (hoff _ (by omega) (.inl (by omega))).trans f.bits
  have ekw : kw (layC c) (unl (layC c) ls w p q n) p = q + 1 := (hoff _ (by omega) (.inl (by omega))).trans t.kind
  generalize unl (layC c) ls w p q n = x at *
  have w1 : ∀ b, 0 ≤ b → wd (x.set ((layC c).at_3 + p).toNat ((m - 2 ^ j.toNat : Nat) : Int)) b = if b = (layC c).at_3 + p then ((m - 2 ^ j.toNat : Nat) : Int) else wd x b := fun b hb => wd_set (by omega) hb
  have g2 : (x.set ((layC c).at_3 + p).toNat ((m - 2 ^ j.toNat : Nat) : Int)).getD ((layC c).at_2 + p).toNat 0 = n := by
    refine (w1 _ (by omega)).trans ?_
    rw [if_neg (by omega)]; exact ecw
  have w2 : ∀ b, 0 ≤ b → wd ((x.set ((layC c).at_3 + p).toNat ((m - 2 ^ j.toNat : Nat) : Int)).set ((layC c).at_2 + p).toNat (n + 1)) b = if b = (layC c).at_2 + p then n + 1 else if b = (layC c).at_3 + p then ((m - 2 ^ j.toNat : Nat) : Int) else wd x b := fun b hb => by
    rw [wd_set (by rw [List.length_set]; omega) hb, w1 b hb]
  have g4 : ((x.set ((layC c).at_3 + p).toNat ((m - 2 ^ j.toNat : Nat) : Int)).set ((layC c).at_2 + p).toNat (n + 1)).getD ((layC c).at_2 + p).toNat 0 = n + 1 := by
    refine (w2 _ (by omega)).trans ?_
    rw [if_pos rfl]
  have vy : VOK (layC c) ((x.set ((layC c).at_3 + p).toNat ((m - 2 ^ j.toNat : Nat) : Int)).set ((layC c).at_2 + p).toNat (n + 1)).length ((x.set ((layC c).at_3 + p).toNat ((m - 2 ^ j.toNat : Nat) : Int)).set ((layC c).at_2 + p).toNat (n + 1)) := ⟨v.lay, rfl, by simpa [hlen] using v.all⟩
  have ry : RepW (layC c).at_4 c.Pages ((x.set ((layC c).at_3 + p).toNat ((m - 2 ^ j.toNat : Nat) : Int)).set ((layC c).at_2 + p).toNat (n + 1)) (inn.set p.toNat 0) ls' := r1'.congr (by omega) (by rw [e0]; omega) (fun b h0 h1 => by rw [e0] at h1; rw [w2 b (by omega), if_neg (by omega), if_neg (by omega)])
  have hky : kw (layC c) ((x.set ((layC c).at_3 + p).toNat ((m - 2 ^ j.toNat : Nat) : Int)).set ((layC c).at_2 + p).toNat (n + 1)) p = q + 1 := by
    refine (w2 _ (by omega)).trans ?_
    rw [if_neg (by omega), if_neg (by omega)]; exact ekw
  have enum : (a - (layC c).at_10) % 32 / sizeC q = j := t.num.symm
  have hne : (!sizeC q == 0) = true := by rw [beq_eq_false_iff_ne.2 (show sizeC q ≠ 0 by omega)]; rfl
  have ew : IntKind.wrap IntKind.i64 (Int.tdiv ((a - (layC c).at_10) % 32) (sizeC q)) = j := by
    rw [Int.tdiv_eq_ediv_of_nonneg (by omega), enum, wrap_id (by omega) (by omega)]
  have ew2 : IntKind.wrap IntKind.i64 (n + 1) = n + 1 := wrap_id (by omega) (by omega)
  simp only [k2, k3, o2, o3, Option.bind_some, List.length_set, hlen, r2, r3, cond_true, rSize_eq, hne, ew, ebw, rClear_eq (bits_lt f.lt s1) (show 0 ≤ j ∧ j < 32 by omega) t.is, g2, ew2, g4, rSlots3_eq]
  unfold turnW at hRet
  by_cases hs : n + 1 = slotsC q
  · rw [if_pos hs] at hRet
    rw [beq_iff_eq.2 hs, cond_true]
    obtain ⟨k, y, d1, d2⟩ := r9Drop_eq h vy p
    rw [d1, Option.bind_some]
    have hkn := (knd_in (w := (x.set ((layC c).at_3 + p).toNat ((m - 2 ^ j.toNat : Nat) : Int)).set ((layC c).at_2 + p).toNat (n + 1)) (kb := (layC c).at_1) hpc).trans hky
    rcases d2 with ⟨_, _, d3, d4⟩ | ⟨d3, _⟩
    · have ed := drop_page v.lay (by simpa [hlen] using v.all) hp f.cls hky d3 d4
      have es := setP_over (w := x) (x := (x.set ((layC c).at_3 + p).toNat ((m - 2 ^ j.toNat : Nat) : Int)).set ((layC c).at_2 + p).toNat (n + 1)) v.lay (by simp only [List.length_set]) (by rw [hlen]; exact hn) hp (fun b h0 h1 h2 => by rw [w2 b h0, if_neg h1, if_neg h2])
      rw [ed.trans es]
      exact ⟨_, _, rfl, hRet⟩
    · exact absurd ⟨by rw [hkn]; have := f.cls; omega, by rw [hkn]; have := f.cls; omega⟩ d3
  · rw [if_neg hs] at hRet
    rw [beq_eq_false_iff_ne.2 hs, cond_false, rLink_eq h vy (xs := ls' q (n + 1)) (fun k => ry.lst _ _ k) (fun k _ _ hm => by
      have := ((ry.mem _ _ k p).1 hm).2
      have := k.1; have := k.2; omega), Option.bind_some]
    have hL : isL q (n + 1) := ⟨f.cls, by omega, by omega⟩
    rw [if_pos hL] at hRet
    rw [if_pos ⟨hL, hpc⟩]
    exact ⟨_, _, rfl, hRet⟩
end
end Go.Rx
end

section
namespace Go.Rx
variable {L : ya} {nw : Nat} {cur u inn : List Int} {ls : Int → Int → List Int}
theorem turn_words {w1 inn1 : List Int} {ls1 : Int → Int → List Int} {p c b n : Int} (h : LayOK L) (hn : L.at_11 ≤ (w1.length : Int)) (hp : 0 ≤ p ∧ p < L.c.Pages) (r1 : RepW L.at_4 L.c.Pages w1 inn1 ls1) (hz : wd inn1 p = 0) {x : Int} (h1 : L.at_1 ≤ x) (h2 : x < L.at_4) :
    wd (turnW L w1 p c b n) x = if n = slotsC c then (if x = L.at_1 + p ∨ x = L.at_2 + p ∨ x = L.at_3 + p then 0 else wd w1 x) else if x = L.at_2 + p then n else if x = L.at_3 + p then b else wd w1 x := by
  have g := h.geo11
  unfold turnW
  by_cases hs : n = slotsC c
  · rw [if_pos hs, if_pos hs, setP_wd (GeoKL h hn) hp (by omega)]
    repeat' split
    all_goals first | rfl | omega
  · rw [if_neg hs, if_neg hs]
    have hv : ∀ y, 0 ≤ y → wd ((w1.set (L.at_3 + p).toNat b).set (L.at_2 + p).toNat n) y = if y = L.at_2 + p then n else if y = L.at_3 + p then b else wd w1 y := fun y hy => by
      rw [wd_set (by rw [List.length_set]; omega) hy, wd_set (by omega) hy]
    by_cases hL : isL c n
    · rw [if_pos hL]
      have rv : RepW L.at_4 L.c.Pages ((w1.set (L.at_3 + p).toNat b).set (L.at_2 + p).toNat n) inn1 ls1 := r1.congr (by omega) (by omega) (fun y h0 h1 => by rw [hv y (by omega), if_neg (by omega), if_neg (by omega)])
      obtain ⟨_, _, _, a3⟩ := rv.linked (GeoL h (by simpa using hn)) hL hp hz
      rw [a3 x (by omega) (.inl h2), hv x (by omega)]
    · rw [if_neg hL, hv x (by omega)]
structure Got (L : ya) (w : List Int) (c a : Int) (x : List Int) (p i : Int) (m : Nat) : Prop where
  cls : 0 ≤ c ∧ c < 5
  page : 0 ≤ p ∧ p < L.c.Pages
  num : 0 ≤ i ∧ i < slotsC c
  addr : a = L.at_10 + p * 32 + i * sizeC c
  bit : m.testBit i.toNat = false
  lt : m < 2 ^ (slotsC c).toNat
  was : (kw L w p = c + 1 ∧ bw L w p = m ∧ cw L w p = slotsC c - popN m (slotsC c).toNat ∧ popN m (slotsC c).toNat ≠ 0) ∨ (kw L w p = 0 ∧ bw L w p = 0 ∧ cw L w p = 0 ∧ m = 0)
  kind : kw L x p = c + 1
  bits : bw L x p = ((m + 2 ^ i.toNat : Nat) : Int)
  left : cw L x p = slotsC c - popN m (slotsC c).toNat - 1
  other : ∀ q, 0 ≤ q → q < L.c.Pages → q ≠ p → kw L x q = kw L w q ∧ cw L x q = cw L w q ∧ bw L x q = bw L w q
theorem got_of {w x : List Int} {c a : Int} (h : LayOK L) (hn : L.at_11 ≤ (w.length : Int)) (i : Inv11 L w inn ls) (s : GrabS L ls w c a true x) : ∃ p j m, Got L w c a x p j m := by
  have g := h.geo11
  have hpg := h.pages
  have hil : (inn.length : Int) = L.c.Pages := i.rep.len
  cases s with
  | @old p m j hc hp hf hb hj h0 =>
    rcases first_cls i hc hf with ⟨e, _⟩ | ⟨hp, ⟨m', f⟩, h1, _, _⟩
    · omega
    · have e : m' = m := by have := f.bits; omega
      subst e
      obtain ⟨s1, s2, s3⟩ := slots_pow hc
      have hlf := f.left; have hu := f.used
      obtain ⟨_, j2, j3⟩ := isFirst_ge hj (by omega)
      obtain ⟨ls', r1, hlen, hoff⟩ := cls_rep h hn i.rep hp f
      have hw : ∀ y, L.at_1 ≤ y → y < L.at_4 → wd (turnW L (unl L ls w p c (cw L w p)) p c ((m' + 2 ^ j.toNat : Nat) : Int) (cw L w p - 1)) y = if y = L.at_2 + p then cw L w p - 1 else if y = L.at_3 + p then ((m' + 2 ^ j.toNat : Nat) : Int) else wd w y := fun y h1 h2 => by
        rw [turn_words h (by rw [hlen]; exact hn) hp r1 (by rw [wd_set (by omega) hp.1, if_pos rfl]) h1 h2, if_neg (by omega), hoff y (by omega) (.inl h2)]
      generalize turnW L (unl L ls w p c (cw L w p)) p c ((m' + 2 ^ j.toNat : Nat) : Int) (cw L w p - 1) = X at *
      refine ⟨p, j, m', hc, hp, ⟨h0, by omega⟩, rfl, j3, f.lt, .inl ⟨f.kind, f.bits, hlf, by omega⟩, ?_, ?_, ?_, fun q q0 q1 hq => ⟨?_, ?_, ?_⟩⟩
      · unfold kw; rw [hw _ (by omega) (by omega), if_neg (by omega), if_neg (by omega)]; exact f.kind
      · unfold bw; rw [hw _ (by omega) (by omega), if_neg (by omega), if_pos rfl]
      · show wd X (L.at_2 + p) = _
        rw [hw _ (by omega) (by omega), if_pos rfl]
        omega
      · unfold kw; rw [hw _ (by omega) (by omega), if_neg (by omega), if_neg (by omega)]
      · show wd X (L.at_2 + q) = wd w (L.at_2 + q)
        rw [hw _ (by omega) (by omega), if_neg (by omega), if_neg (by omega)]
      · unfold bw; rw [hw _ (by omega) (by omega), if_neg (by omega), if_neg (by omega)]
  | @new p u hc hf hr hp ht =>
    rcases find_free hr with ⟨e, _⟩ | ⟨hp, hk⟩
    · omega
    · obtain ⟨hl, hv⟩ := new_page h hn hp hc ht
      obtain ⟨s1, s2, s3⟩ := slots_pow hc
      have f : FreeOK L w inn p := by
        rcases i.pg p hp.1 hp.2 with f | ⟨c', m, f⟩
        · exact f
        · have := f.kind; have := f.cls; omega
      generalize hvv : u.set (L.at_2 + p).toNat (slotsC c) = v at *
      have hvl : v.length = w.length := by rw [← hvv, List.length_set, hl]
      have rv : RepW L.at_4 L.c.Pages v inn ls := i.rep.congr (by omega) (by omega) (fun b h0 h1 => by rw [hv b (by omega), if_neg (by omega), if_neg (by omega), if_neg (by omega)])
      have hw : ∀ y, L.at_1 ≤ y → y < L.at_4 → wd (turnW L v p c 1 (slotsC c - 1)) y = if y = L.at_2 + p then slotsC c - 1 else if y = L.at_3 + p then 1 else if y = L.at_1 + p then c + 1 else wd w y := fun y h1 h2 => by
        rw [turn_words h (by rw [hvl]; exact hn) hp rv f.linked h1 h2, if_neg (by omega), hv y (by omega)]
        repeat' split
        all_goals first | rfl | omega
      have hz := popN_zero (slotsC c).toNat
      refine ⟨p, 0, 0, hc, hp, ⟨by omega, by omega⟩, by omega, by simp, Nat.two_pow_pos _, .inr ⟨hk, f.bits, f.left, rfl⟩, ?_, ?_, ?_, fun q q0 q1 hq => ⟨?_, ?_, ?_⟩⟩
      · unfold kw; rw [hw _ (by omega) (by omega), if_neg (by omega), if_neg (by omega), if_pos rfl]
      · unfold bw; rw [hw _ (by omega) (by omega), if_neg (by omega), if_pos rfl]; rfl
      · unfold cw; rw [hw _ (by omega) (by omega), if_pos rfl]; omega
      · unfold kw; rw [hw _ (by omega) (by omega), if_neg (by omega), if_neg (by omega), if_neg (by omega)]
      · unfold cw; rw [hw _ (by omega) (by omega), if_neg (by omega), if_neg (by omega), if_neg (by omega)]
      · unfold bw; rw [hw _ (by omega) (by omega), if_neg (by omega), if_neg (by omega), if_neg (by omega)]
theorem Got.tk {w x : List Int} {c a p i : Int} {m : Nat} (h : LayOK L) (t : Got L w c a x p i m) : Tk L x a p c (m + 2 ^ i.toNat) i := by
  have g := h.geo11
  have hc := t.cls; have hp := t.page; have hi := t.num
  have hm := mul_size hc hi
  have hsz := sizeC_in hc
  have ha := t.addr
  refine ⟨by omega, by omega, hc, t.kind, t.bits, ?_, ?_, ?_⟩
  · rw [show (a - L.at_10) % 32 = i * sizeC c by omega]
    exact Int.mul_emod_left _ _
  · rw [show (a - L.at_10) % 32 = i * sizeC c by omega, Int.mul_ediv_cancel _ (by omega)]
  · rw [add_bit t.bit]; simp
theorem Got.back {w x y inn' : List Int} {ls' : Int → Int → List Int} {c a p i : Int} {m : Nat} {b : Bool} (h : LayOK L) (hn : L.at_11 ≤ (x.length : Int)) (t : Got L w c a x p i m) (i' : Inv11 L x inn' ls') (s : RetS L ls' x a b y) :
    b = true ∧ (∀ q, 0 ≤ q → q < L.c.Pages → kw L y q = kw L w q ∧ cw L y q = cw L w q ∧ bw L y q = bw L w q) ∧ ∀ p c m j, ¬ Tk L y a p c m j := by
  have g := h.geo11
  have hpg := h.pages
  have tk := t.tk h
  have hc := t.cls; have hp := t.page; have hi := t.num
  obtain ⟨s1, s2, s3⟩ := slots_pow hc
  have ey : b = true ∧ y = turnW L (unl L ls' x p c (cw L x p)) p c (m : Int) (cw L x p + 1) := by
    have hy := RetS.yes (ls := ls') tk
    rw [show m + 2 ^ i.toNat - 2 ^ i.toNat = m by omega] at hy
    exact s.uniq hy
  obtain ⟨rfl, ey⟩ := ey
  have hlf := t.left
  have hpl := popN_lt (m := m) (k := (slotsC c).toNat) (i := i.toNat) (by omega) t.bit
  have f : ClsOK L x inn' p c (m + 2 ^ i.toNat) := by
    rcases i'.pg p hp.1 hp.2 with f | ⟨c', m', f⟩
    · have := f.kind; have := t.kind; omega
    · have e1 : c' = c := by have := f.kind; have := t.kind; omega
      subst e1
      have e2 : m' = m + 2 ^ i.toNat := by have := f.bits; have := t.bits; omega
      subst e2
      exact f
  obtain ⟨ls2, r1, hlen, hoff⟩ := cls_rep h hn i'.rep hp f
  have hil : (inn'.length : Int) = L.c.Pages := i'.rep.len
  have hw : ∀ z, L.at_1 ≤ z → z < L.at_4 → wd y z = if cw L x p + 1 = slotsC c then (if z = L.at_1 + p ∨ z = L.at_2 + p ∨ z = L.at_3 + p then 0 else wd x z) else if z = L.at_2 + p then cw L x p + 1 else if z = L.at_3 + p then (m : Int) else wd x z := fun z h1 h2 => by
    rw [ey, turn_words h (by rw [hlen]; exact hn) hp r1 (by rw [wd_set (by omega) hp.1, if_pos rfl]) h1 h2, hoff z (by omega) (.inl h2)]
  have all : ∀ q, 0 ≤ q → q < L.c.Pages → kw L y q = kw L w q ∧ cw L y q = cw L w q ∧ bw L y q = bw L w q := by
    intro q q0 q1
    by_cases e : q = p
    · subst e
      rcases t.was with ⟨w1, w2, w3, w4⟩ | ⟨w1, w2, w3, w4⟩
      · refine ⟨?_, ?_, ?_⟩
        · rw [w1]; unfold kw; rw [hw _ (by omega) (by omega), if_neg (by omega), if_neg (by omega), if_neg (by omega)]; exact t.kind
        · rw [w3]; show wd y (L.at_2 + q) = _; rw [hw _ (by omega) (by omega), if_neg (by omega), if_pos rfl]; omega
        · rw [w2]; unfold bw; rw [hw _ (by omega) (by omega), if_neg (by omega), if_neg (by omega), if_pos rfl]
      · have hz := popN_zero (slotsC c).toNat
        subst w4
        refine ⟨?_, ?_, ?_⟩
        · rw [w1]; unfold kw; rw [hw _ (by omega) (by omega), if_pos (by omega), if_pos (by omega)]
        · rw [w3]; show wd y (L.at_2 + q) = _; rw [hw _ (by omega) (by omega), if_pos (by omega), if_pos (by omega)]
        · rw [w2]; unfold bw; rw [hw _ (by omega) (by omega), if_pos (by omega), if_pos (by omega)]
    · obtain ⟨o1, o2, o3⟩ := t.other q q0 q1 e
      have hz : ∀ z, L.at_1 ≤ z → z < L.at_4 → z ≠ L.at_1 + p → z ≠ L.at_2 + p → z ≠ L.at_3 + p → wd y z = wd x z := fun z h1 h2 h3 h4 h5 => by
        rw [hw z h1 h2]
        repeat' split
        all_goals first | rfl | omega
      refine ⟨?_, ?_, ?_⟩
      · rw [← o1]; exact hz _ (by omega) (by omega) (by omega) (by omega) (by omega)
      · rw [← o2]; exact hz _ (by omega) (by omega) (by omega) (by omega) (by omega)
      · rw [← o3]; exact hz _ (by omega) (by omega) (by omega) (by omega) (by omega)
  refine ⟨rfl, all, fun p' c' m' j' t' => ?_⟩
  have e1 : p' = p := t'.page.trans tk.page.symm
  subst e1
  obtain ⟨a1, a2, a3⟩ := all p' hp.1 hp.2
  rcases t.was with ⟨w1, w2, _, _⟩ | ⟨w1, _, _, _⟩
  · have e2 : c' = c := by have := t'.kind; omega
    subst e2
    have e3 : m' = m := by have := t'.bits; omega
    subst e3
    have e4 : j' = i := t'.num.trans tk.num.symm
    subst e4
    have := t'.is
    rw [t.bit] at this
    cases this
  · have := t'.kind; have := t'.cls; omega
theorem freeN_congr {w y : List Int} {c : Int} : ∀ {k : Nat}, (∀ q : Int, 0 ≤ q → q < k → kw L y q = kw L w q ∧ bw L y q = bw L w q) → freeN L y c k = freeN L w c k
  | 0, _ => rfl
  | k + 1, h => by
    simp only [freeN]
    rw [freeN_congr (fun q h0 h1 => h q h0 (by omega)), (h k (by omega) (by omega)).1, (h k (by omega) (by omega)).2]
theorem Inv11.start (h : LayOK L) : Inv11 L (List.replicate L.at_11.toNat 0) (List.replicate L.c.Pages.toNat 0) (fun _ _ => []) := by
  have g := h.geo11
  have hz : ∀ (n : Nat) (b : Int), wd (List.replicate n 0) b = 0 := fun n b => by
    simp [wd, List.getD, List.getElem?_replicate]; split <;> rfl
  exact ⟨RepW.zero (GeoL h (by omega)), fun p _ _ => .inl ⟨hz _ _, hz _ _, hz _ _, hz _ _⟩⟩
end Go.Rx
end

noncomputable section
namespace Go.Rx
open Go.Proofs
set_option maxRecDepth 100000
set_option maxHeartbeats 4000000
abbrev Y49 := Bool → Option Int
def y7o (m_ : Y49) (args : List V) (H : Heap) (K : V → Heap → Prop) : Prop :=
  aC args fun a0 r => aN r <| aBool a0 fun isv => aN H <| So (m_ isv) fun x => K (vi x) []
def yc4 (m_ : Y49) : Spec := ⟨y7o m_, (true : Bool)⟩
abbrev Y18 := Nat → (List Int) → ya → yj → Int → Option (Int × Int × Int × Int × (List Int))
def y9l (m_ : Y18) (args : List V) (H : Heap) (K : V → Heap → Prop) : Prop :=
  aC args fun a0 r => aC r fun a1 r => aC r fun a2 r => aC r fun a3 r => aN r <| aPtr 0 a0 <| aAgg a1 fun c1 => yq c1 fun l2 => aAgg a2 fun c2 => y4w c2 fun a => aInt a3 fun atv => aC H fun b0 r => aC r fun b1 r => aN r <| bView 1 b0 fun ws cur xs => bRow 0 true b1 fun (l : List Int) => ws = l ∧ xs.length ≤ 2 ∧ So (m_ ws.length cur l2 a atv) fun x => K (.agg [vi x.1, vi x.2.1, vi x.2.2.1, vi x.2.2.2.1]) [.pk 0 [ws, x.2.2.2.2] xs [.row 1], .row 0 l true]
def ybb (m_ : Y18) : Spec := ⟨y9l m_, (true : Bool)⟩
abbrev Y35 := Int → yj → (List Int) → Option Int
def y7f (m_ : Y35) (args : List V) (H : Heap) (K : V → Heap → Prop) : Prop :=
  aC args fun a0 r => aC r fun a1 r => aC r fun a2 r => aN r <| aRow 0 a0 <| aInt a1 fun user => aAgg a2 fun c2 => y4w c2 fun a => aC H fun b0 r => aN r <| bRow 0 true b0 fun (b : List Int) => So (m_ user a b) fun x => K (vi x) [.row 0 b true]
def yaw (m_ : Y35) : Spec := ⟨y7f m_, (true : Bool)⟩
abbrev Y34 := Int → (List Int) → Option (List Int)
def y65 (m_ : Y34) (args : List V) (H : Heap) (K : V → Heap → Prop) : Prop :=
  aC args fun a0 r => aC r fun a1 r => aN r <| aRow 0 a0 <| aInt a1 fun a => aC H fun b0 r => aN r <| bRow 0 true b0 fun (b : List Int) => So (m_ a b) fun x => K (.row 1) [.row 0 b true, .row 0 x false]
def ydw (m_ : Y34) : Spec := ⟨y65 m_, (true : Bool)⟩
def yaa  : Cfg := { cfgB with
  sigs := sigN }
def yav (y01 : Y11) (yp : Y49) (y09 : Y10) (y0u : Y33) (y1h : Y19) (yx : Y0) : Cfg := { cfgB with
  sigs := (sigC 25 (y58 y01) (sigC 41 (yc4 yp) (sigC 30 (y8r y09) (sigC 42 (ybv y0u) (sigC 24 (yds y1h) (sigC 29 (y5k yx) sigN)))))),
  plan := fun r => match r with | 10 => some ([0, 1, 3, 4, 5, 6, 9, 10, 11, 12, 2, 7, 8, 13, 14, 15], 528) | _ => none,
  flag := fun d => Nat.beq d 8 }
def yai  : Cfg := { cfgB with
  sigs := sigN }
def y33  : Cfg := { cfgB with
  sigs := sigN,
  keep := fun r => match r with | 3 => some [(0, some 0), (1, none), (5, some 0), (6, none)] | _ => none }
theorem yib (isv : Bool) (K : V → Heap → Prop) : (exF yaa Tryz.f41 [vb isv] [] K) = (
    br isv (K (vi 1) []) (K (vi 0) [])) := by kernel_rfl
theorem yez (y01 : Y11) (yp : Y49) (y09 : Y10) (y0u : Y33) (y1h : Y19) (yx : Y0) (ws cur : List Int) (xs : List Value) (l2 : ya) (a : yj) (atv : Int) (K : V → Heap → Prop) : (exF (yav y01 yp y09 y0u y1h yx) Tryz.f12 [.ptr 0 0, .agg (yc l2), .agg (y53 a), vi atv] (hV ws cur xs) K) = (
    br (a.Kind == 0) (br (a.Kind == 0) ((ws = ws) ∧ ((xs.length ≤ 2) ∧ (So (y01 ws.length cur l2 a.C) (fun (y0 : Int × Bool × List Int) => (So (yp y0.2.1) (fun (y1 : Int) => (K (.agg [vi y0.1, vi y1, vi 0, vi 0]) (hV ws y0.2.2 xs)))))))) (br (a.Kind == 2) (br (a.Kind == 2) ((ws = ws) ∧ ((xs.length ≤ 2) ∧ (So (y09 ws.length cur l2 atv) (fun (y2 : Bool × List Int) => (So (yp y2.1) (fun (y3 : Int) => (K (.agg [vi y3, vi 0, vi 0, vi 0]) (hV ws y2.2 xs)))))))) ((ws = ws) ∧ ((xs.length ≤ 2) ∧ (So (y0u ws.length cur l2 atv) (fun (y4 : Int × Bool) => (So (yp y4.2) (fun (y5 : Int) => ((ws = ws) ∧ ((xs.length ≤ 2) ∧ (So (y1h ws.length cur l2 a.C) (fun (y6 : Bool) => (So (yp y6) (fun (y7 : Int) => ((ws = ws) ∧ ((xs.length ≤ 2) ∧ (So (yx ws.length cur l2 a.C) (fun (y8 : Int) => (K (.agg [vi y4.1, vi y5, vi y7, vi y8]) (hV ws cur xs))))))))))))))))))) (br (a.Kind == 3) ((ws = ws) ∧ ((xs.length ≤ 2) ∧ (So (y09 ws.length cur l2 atv) (fun (y9 : Bool × List Int) => (So (yp y9.1) (fun (y10 : Int) => (K (.agg [vi y10, vi 0, vi 0, vi 0]) (hV ws y9.2 xs)))))))) ((ws = ws) ∧ ((xs.length ≤ 2) ∧ (So (y0u ws.length cur l2 atv) (fun (y11 : Int × Bool) => (So (yp y11.2) (fun (y12 : Int) => ((ws = ws) ∧ ((xs.length ≤ 2) ∧ (So (y1h ws.length cur l2 a.C) (fun (y13 : Bool) => (So (yp y13) (fun (y14 : Int) => ((ws = ws) ∧ ((xs.length ≤ 2) ∧ (So (yx ws.length cur l2 a.C) (fun (y15 : Int) => (K (.agg [vi y11.1, vi y12, vi y14, vi y15]) (hV ws cur xs))))))))))))))))))))) (br (a.Kind == 1) ((ws = ws) ∧ ((xs.length ≤ 2) ∧ (So (y01 ws.length cur l2 a.C) (fun (y16 : Int × Bool × List Int) => (So (yp y16.2.1) (fun (y17 : Int) => (K (.agg [vi y16.1, vi y17, vi 0, vi 0]) (hV ws y16.2.2 xs)))))))) (br (a.Kind == 2) (br (a.Kind == 2) ((ws = ws) ∧ ((xs.length ≤ 2) ∧ (So (y09 ws.length cur l2 atv) (fun (y18 : Bool × List Int) => (So (yp y18.1) (fun (y19 : Int) => (K (.agg [vi y19, vi 0, vi 0, vi 0]) (hV ws y18.2 xs)))))))) ((ws = ws) ∧ ((xs.length ≤ 2) ∧ (So (y0u ws.length cur l2 atv) (fun (y20 : Int × Bool) => (So (yp y20.2) (fun (y21 : Int) => ((ws = ws) ∧ ((xs.length ≤ 2) ∧ (So (y1h ws.length cur l2 a.C) (fun (y22 : Bool) => (So (yp y22) (fun (y23 : Int) => ((ws = ws) ∧ ((xs.length ≤ 2) ∧ (So (yx ws.length cur l2 a.C) (fun (y24 : Int) => (K (.agg [vi y20.1, vi y21, vi y23, vi y24]) (hV ws cur xs))))))))))))))))))) (br (a.Kind == 3) ((ws = ws) ∧ ((xs.length ≤ 2) ∧ (So (y09 ws.length cur l2 atv) (fun (y25 : Bool × List Int) => (So (yp y25.1) (fun (y26 : Int) => (K (.agg [vi y26, vi 0, vi 0, vi 0]) (hV ws y25.2 xs)))))))) ((ws = ws) ∧ ((xs.length ≤ 2) ∧ (So (y0u ws.length cur l2 atv) (fun (y27 : Int × Bool) => (So (yp y27.2) (fun (y28 : Int) => ((ws = ws) ∧ ((xs.length ≤ 2) ∧ (So (y1h ws.length cur l2 a.C) (fun (y29 : Bool) => (So (yp y29) (fun (y30 : Int) => ((ws = ws) ∧ ((xs.length ≤ 2) ∧ (So (yx ws.length cur l2 a.C) (fun (y31 : Int) => (K (.agg [vi y27.1, vi y28, vi y30, vi y31]) (hV ws cur xs)))))))))))))))))))))) := by kernel_rfl
theorem yiz (user : Int) (a : yj) (b : List Int) (K : V → Heap → Prop) : (exF yai Tryz.f8 [.row 0, vi user, .agg (y53 a)] [.row 0 b true] K) = (
    br (a.Kind == 2) (br (decide ((↑b.length : Int) > 0)) (Req (!IntKind.u64.wrap (↑b.length : Int) == 0) (Req (inR (IntKind.i64.wrap (Int.tmod (IntKind.u64.wrap a.N) (IntKind.u64.wrap (↑b.length : Int)))) b.length) (Req (inR (offs (IntKind.i64.wrap (Int.tmod (IntKind.u64.wrap a.N) (IntKind.u64.wrap (↑b.length : Int)))) 0) b.length) (K (vi (b.getD (Int.toNat (offs (IntKind.i64.wrap (Int.tmod (IntKind.u64.wrap a.N) (IntKind.u64.wrap (↑b.length : Int)))) 0)) 0)) [.row 0 b true])))) (K (vi (IntKind.i64.wrap (user + IntKind.i64.wrap (Int.tmod (IntKind.u64.wrap a.N) 1024)))) [.row 0 b true])) (K (vi (IntKind.i64.wrap (user + IntKind.i64.wrap (Int.tmod (IntKind.u64.wrap a.N) 1024)))) [.row 0 b true])) := by kernel_rfl
theorem yg1 (a : Int) (b : List Int) (iv : Int) (w : List Int) (K : V → Heap → Prop) (J1 : Env → Heap → Prop) : (ex y33 (⟨27, 1⟩ : Cx) (at_ (bodyOf Tryz.f15) [1, 1, 0, 1, 0, 0]) (mkEnv [(0, .row 0), (1, vi a), (5, .row 1), (6, vi iv)]) [.row 0 b true, .row 0 w false] (roundK y33 (⟨27, 1⟩ : Cx) (at_ (bodyOf Tryz.f15) [1, 1, 0, 1, 0, 0]) (contK y33 (⟨27, 1⟩ : Cx) (bodyOf Tryz.f15) [1, 1, 0, 1, 0] (retK y33 Tryz.f15 1 K)) J1)) = (
    br (decide (iv < (↑b.length : Int))) (Req (inR iv b.length) (Req (inR (offs iv 0) b.length) (br (b.getD (offs iv 0).toNat 0 != a) (Req (inR iv b.length) (Req (inR (offs iv 0) b.length) (Req (decide (w.length + 1 ≤ 1048576)) (J1 (mkEnv [(0, .row 0), (1, vi a), (5, .row 1), (6, vi (IntKind.i64.wrap (iv + 1)))]) [.row 0 b true, .row 0 (w ++ [b.getD (offs iv 0).toNat 0] : List Int) false])))) (J1 (mkEnv [(0, .row 0), (1, vi a), (5, .row 1), (6, vi (IntKind.i64.wrap (iv + 1)))]) [.row 0 b true, .row 0 w false])))) (K (.row 1) [.row 0 b true, .row 0 w false])) := by kernel_rfl
theorem yin (a : Int) (b : List Int) (K : V → Heap → Prop) : (exF y33 Tryz.f15 [.row 0, vi a] [.row 0 b true] K) = (
    Loop y33 (⟨27, 1⟩ : Cx) (at_ (bodyOf Tryz.f15) [1, 1, 0, 1, 0, 0]) (mkEnv [(0, .row 0), (1, vi a), (5, .row 1), (6, vi 0)]) [.row 0 b true, .row 0 ([] : List Int) false] (contK y33 (⟨27, 1⟩ : Cx) (bodyOf Tryz.f15) [1, 1, 0, 1, 0] (retK y33 Tryz.f15 1 K))) := by kernel_rfl
def yp (isv : Bool) : Option Int :=
  (bif isv then some 1 else some 0)
def y0j (nw : Nat) (cur : List Int) (l2 : ya) (a : yj) (atv : Int) : Option (Int × Int × Int × Int × (List Int)) :=
  (bif (a.Kind == 0) then (bif (a.Kind == 0) then ((y01 nw cur l2 a.C).bind fun y0 => ((yp y0.2.1).bind fun y1 => some (y0.1, y1, 0, 0, y0.2.2))) else (bif (a.Kind == 2) then (bif (a.Kind == 2) then ((y09 nw cur l2 atv).bind fun y2 => ((yp y2.1).bind fun y3 => some (y3, 0, 0, 0, y2.2))) else ((y0u nw cur l2 atv).bind fun y4 => ((yp y4.2).bind fun y5 => ((y1h nw cur l2 a.C).bind fun y6 => ((yp y6).bind fun y7 => ((yx nw cur l2 a.C).bind fun y8 => some (y4.1, y5, y7, y8, cur))))))) else (bif (a.Kind == 3) then ((y09 nw cur l2 atv).bind fun y9 => ((yp y9.1).bind fun y10 => some (y10, 0, 0, 0, y9.2))) else ((y0u nw cur l2 atv).bind fun y11 => ((yp y11.2).bind fun y12 => ((y1h nw cur l2 a.C).bind fun y13 => ((yp y13).bind fun y14 => ((yx nw cur l2 a.C).bind fun y15 => some (y11.1, y12, y14, y15, cur))))))))) else (bif (a.Kind == 1) then ((y01 nw cur l2 a.C).bind fun y16 => ((yp y16.2.1).bind fun y17 => some (y16.1, y17, 0, 0, y16.2.2))) else (bif (a.Kind == 2) then (bif (a.Kind == 2) then ((y09 nw cur l2 atv).bind fun y18 => ((yp y18.1).bind fun y19 => some (y19, 0, 0, 0, y18.2))) else ((y0u nw cur l2 atv).bind fun y20 => ((yp y20.2).bind fun y21 => ((y1h nw cur l2 a.C).bind fun y22 => ((yp y22).bind fun y23 => ((yx nw cur l2 a.C).bind fun y24 => some (y20.1, y21, y23, y24, cur))))))) else (bif (a.Kind == 3) then ((y09 nw cur l2 atv).bind fun y25 => ((yp y25.1).bind fun y26 => some (y26, 0, 0, 0, y25.2))) else ((y0u nw cur l2 atv).bind fun y27 => ((yp y27.2).bind fun y28 => ((y1h nw cur l2 a.C).bind fun y29 => ((yp y29).bind fun y30 => ((yx nw cur l2 a.C).bind fun y31 => some (y27.1, y28, y30, y31, cur))))))))))
def ybq (rv : yf) (a : yj) (atv : Int) (w : List Int) : Option (Int × Int × Int × Int × (List Int)) :=
  (bif (a.Kind == 0) then (bif (a.Kind == 0) then ((y3o rv a.C w).bind fun y0 => ((yp y0.2.1).bind fun y1 => some (y0.1, y1, 0, 0, y0.2.2))) else (bif (a.Kind == 2) then (bif (a.Kind == 2) then ((y3w rv atv w).bind fun y2 => ((yp y2.1).bind fun y3 => some (y3, 0, 0, 0, y2.2))) else ((y3d rv atv w).bind fun y4 => ((yp y4.2).bind fun y5 => ((y3p rv a.C w).bind fun y6 => ((yp y6).bind fun y7 => ((y4b rv a.C w).bind fun y8 => some (y4.1, y5, y7, y8, w))))))) else (bif (a.Kind == 3) then ((y3w rv atv w).bind fun y9 => ((yp y9.1).bind fun y10 => some (y10, 0, 0, 0, y9.2))) else ((y3d rv atv w).bind fun y11 => ((yp y11.2).bind fun y12 => ((y3p rv a.C w).bind fun y13 => ((yp y13).bind fun y14 => ((y4b rv a.C w).bind fun y15 => some (y11.1, y12, y14, y15, w))))))))) else (bif (a.Kind == 1) then ((y3o rv a.C w).bind fun y16 => ((yp y16.2.1).bind fun y17 => some (y16.1, y17, 0, 0, y16.2.2))) else (bif (a.Kind == 2) then (bif (a.Kind == 2) then ((y3w rv atv w).bind fun y18 => ((yp y18.1).bind fun y19 => some (y19, 0, 0, 0, y18.2))) else ((y3d rv atv w).bind fun y20 => ((yp y20.2).bind fun y21 => ((y3p rv a.C w).bind fun y22 => ((yp y22).bind fun y23 => ((y4b rv a.C w).bind fun y24 => some (y20.1, y21, y23, y24, w))))))) else (bif (a.Kind == 3) then ((y3w rv atv w).bind fun y25 => ((yp y25.1).bind fun y26 => some (y26, 0, 0, 0, y25.2))) else ((y3d rv atv w).bind fun y27 => ((yp y27.2).bind fun y28 => ((y3p rv a.C w).bind fun y29 => ((yp y29).bind fun y30 => ((y4b rv a.C w).bind fun y31 => some (y27.1, y28, y30, y31, w))))))))))
def y0m (user : Int) (a : yj) (b : List Int) : Option Int :=
  (bif (a.Kind == 2) then (bif (decide ((↑b.length : Int) > 0)) then (bif (!IntKind.u64.wrap (↑b.length : Int) == 0) then (bif (inR (IntKind.i64.wrap (Int.tmod (IntKind.u64.wrap a.N) (IntKind.u64.wrap (↑b.length : Int)))) b.length) then (bif (inR (offs (IntKind.i64.wrap (Int.tmod (IntKind.u64.wrap a.N) (IntKind.u64.wrap (↑b.length : Int)))) 0) b.length) then some (b.getD (Int.toNat (offs (IntKind.i64.wrap (Int.tmod (IntKind.u64.wrap a.N) (IntKind.u64.wrap (↑b.length : Int)))) 0)) 0) else none) else none) else none) else some (IntKind.i64.wrap (user + IntKind.i64.wrap (Int.tmod (IntKind.u64.wrap a.N) 1024)))) else some (IntKind.i64.wrap (user + IntKind.i64.wrap (Int.tmod (IntKind.u64.wrap a.N) 1024))))
def y52 (a : Int) (b : List Int) (iv : Int) (w : List Int) : Option ((Int × (List Int)) ⊕ (List Int)) :=
  (bif (decide (iv < (↑b.length : Int))) then (bif (inR iv b.length) then (bif (inR (offs iv 0) b.length) then (bif (b.getD (offs iv 0).toNat 0 != a) then (bif (inR iv b.length) then (bif (inR (offs iv 0) b.length) then (bif (decide (w.length + 1 ≤ 1048576)) then some (.inl ((IntKind.i64.wrap (iv + 1)), (w ++ [b.getD (offs iv 0).toNat 0]))) else none) else none) else none) else some (.inl ((IntKind.i64.wrap (iv + 1)), w))) else none) else none) else some (.inr w))
def yd4 (a : Int) (b : List Int) (s : Int × (List Int)) : Option (List Int) :=
  loopO (fun s => y52 a b s.1 s.2) s
def y0c (a : Int) (b : List Int) : Option (List Int) :=
  (yd4 a b (0, ([])))
attribute [local irreducible] Loop ex exF contK roundK retK at_ bodyOf mkEnv
theorem ygr : SpecOK Tryz.prog elTT 41 (yc4 yp) := by
  refine spec_of_exF (cfg := yaa) (yg rfl rfl rfl) yk (fn := Tryz.f41) (by kernel_rfl) (by kernel_rfl) (by kernel_rfl) ?_
  intro args H K h
  change y7o yp args H K at h
  unfold y7o at h
  repeat first | (obtain ⟨_, h⟩ := h) | replace h := Des.el h
  subst_vars
  refine Eq.mpr (yib _ K) ?_
  unfold yp at h
  revert h
  exact br_So (fun h => h) (fun h => h)
theorem yhb : SpecOK Tryz.prog elTT 12 (ybb y0j) := by
  refine spec_of_exF (cfg := (yav y01 yp y09 y0u y1h yx)) (yg rfl rfl rfl) (yd y8v (yd ygr (yd ydu (yd yf3 (yd yhd (yd y7s yk)))))) (fn := Tryz.f12) (by kernel_rfl) (by kernel_rfl) (by kernel_rfl) ?_
  intro args H K h
  change y9l y0j args H K at h
  unfold y9l at h
  repeat first | (obtain ⟨_, h⟩ := h) | replace h := Des.el h
  subst_vars
  refine Eq.mpr (yez y01 yp y09 y0u y1h yx _ _ _ _ _ _ K) ?_
  unfold y0j at h
  revert h
  exact br_So (br_So (andV (by assumption) (bind_So fun y0 => bind_So fun y1 => fun h => h)) (br_So (br_So (andV (by assumption) (bind_So fun y2 => bind_So fun y3 => fun h => h)) (andV (by assumption) (bind_So fun y4 => bind_So fun y5 => andV (by assumption) (bind_So fun y6 => bind_So fun y7 => andV (by assumption) (bind_So fun y8 => fun h => h))))) (br_So (andV (by assumption) (bind_So fun y9 => bind_So fun y10 => fun h => h)) (andV (by assumption) (bind_So fun y11 => bind_So fun y12 => andV (by assumption) (bind_So fun y13 => bind_So fun y14 => andV (by assumption) (bind_So fun y15 => fun h => h))))))) (br_So (andV (by assumption) (bind_So fun y16 => bind_So fun y17 => fun h => h)) (br_So (br_So (andV (by assumption) (bind_So fun y18 => bind_So fun y19 => fun h => h)) (andV (by assumption) (bind_So fun y20 => bind_So fun y21 => andV (by assumption) (bind_So fun y22 => bind_So fun y23 => andV (by assumption) (bind_So fun y24 => fun h => h))))) (br_So (andV (by assumption) (bind_So fun y25 => bind_So fun y26 => fun h => h)) (andV (by assumption) (bind_So fun y27 => bind_So fun y28 => andV (by assumption) (bind_So fun y29 => bind_So fun y30 => andV (by assumption) (bind_So fun y31 => fun h => h)))))))
theorem yjk : SpecOK Tryz.prog elTT 8 (yaw y0m) := by
  refine spec_of_exF (cfg := yai) (yg rfl rfl rfl) yk (fn := Tryz.f8) (by kernel_rfl) (by kernel_rfl) (by kernel_rfl) ?_
  intro args H K h
  change y7f y0m args H K at h
  unfold y7f at h
  repeat first | (obtain ⟨_, h⟩ := h) | replace h := Des.el h
  subst_vars
  refine Eq.mpr (yiz _ _ _ K) ?_
  unfold y0m at h
  revert h
  exact br_So (br_So (req_So (req_So (req_So (fun h => h)))) (fun h => h)) (fun h => h)
theorem lpok_law11_blocks_without_L1 (a : Int) (b : List Int) (iv : Int) (w : List Int) (K : V → Heap → Prop) : So (yd4 a b (iv, w)) (fun (x : (List Int)) => K (.row 1) [.row 0 b true, .row 0 x false]) → Loop y33 (⟨27, 1⟩ : Cx) (at_ (bodyOf Tryz.f15) [1, 1, 0, 1, 0, 0]) (mkEnv [(0, .row 0), (1, vi a), (5, .row 1), (6, vi iv)]) [.row 0 b true, .row 0 w false] (contK y33 (⟨27, 1⟩ : Cx) (bodyOf Tryz.f15) [1, 1, 0, 1, 0] (retK y33 Tryz.f15 1 K)) := by
  refine loopK_So (fun (s_ : Int × (List Int)) => (mkEnv [(0, .row 0), (1, vi a), (5, .row 1), (6, vi s_.1)])) (fun (s_ : Int × (List Int)) => [.row 0 b true, .row 0 (s_.2 : List Int) false]) (fun (x : (List Int)) => K (.row 1) [.row 0 b true, .row 0 x false]) ?_ (iv, w)
  intro s_ J1 h
  clear iv
  clear w
  obtain ⟨iv, w⟩ := s_
  refine Eq.mpr (yg1 a b iv w K J1) ?_
  have h : So (y52 a b iv w) _ := h
  unfold y52 at h
  revert h
  exact br_So (req_So (req_So (br_So (req_So (req_So (req_So (fun h => h)))) (fun h => h)))) (fun h => h)
theorem yhu : SpecOK Tryz.prog elTT 15 (ydw y0c) := by
  refine spec_of_exF (cfg := y33) (yg rfl rfl rfl) yk (fn := Tryz.f15) (by kernel_rfl) (by kernel_rfl) (by kernel_rfl) ?_
  intro args H K h
  change y65 y0c args H K at h
  unfold y65 at h
  repeat first | (obtain ⟨_, h⟩ := h) | replace h := Des.el h
  subst_vars
  refine Eq.mpr (yin _ _ K) ?_
  unfold y0c at h
  revert h
  exact lpok_law11_blocks_without_L1 _ _ _ _ K
end Go.Rx
end

section
namespace Go.Rx
def nilRow (b tg : Nat) (H : Heap) : Option Heap := match H[b]? with
  | some (.cells U [.ext (.slice none 0 0)]) => some (H.set b (.cells U [.row H.length]) ++ [.row tg [] false])
  | _ => none
def nilRows : List (Nat × Nat) → Heap → Option Heap
  | [], H => some H
  | (b, tg) :: r, H => match nilRow b tg H with
    | some H' => nilRows r H'
    | none => none
def exN (cfg : Cfg) (cx : Cx) (nx : List (Nat × Nat)) : Code → Env → Heap → (Ex → Env → Heap → Prop) → Prop
  | .seq a b, env, H, K => ex cfg cx a env H fun e env H => match e with
    | .normal => match nilRows nx H with
      | some H' => ex cfg cx b env H' K
      | none => False
    | _ => False
  | _, _, _, _ => False
def exFN (cfg : Cfg) (nx : List (Nat × Nat)) (fn : Func) (args : List V) (H : Heap) (K : V → Heap → Prop) : Prop :=
  match fn.body with
  | some c => exN cfg (cxOf fn args H) nx c (argEnv args) H (retK cfg fn H.length K)
  | none => False
variable {cfg : Cfg} {cx : Cx} {ds : List Deferred} {ρ0 : List Value} {F0 : Nat → List Nat} {H0 : Heap} {w0 : World} {ρ : List Value} {F : Nat → List Nat} {H H' : Heap} {w : World}
theorem nilRow_step {b tg : Nat} (h : nilRow b tg H = some H') (hs : Sat cfg.elT ρ F H w) : ∃ ρ' F', Step cfg none ρ F H w ρ' F' H' w := by
  unfold nilRow at h
  split at h
  · rename_i U hb
    injection h with h
    subst h
    have hbl : b < H.length := (List.getElem?_eq_some_iff.1 hb).1
    have st : Step cfg none ρ F H w _ _ (H ++ [.row tg [] false]) w := .push hs (b := .row tg [] false) (x := .slice none 0 0) (G := []) rfl rfl rfl (Nat.le_refl _) (fun _ _ => rfl) (by simp) ⟨World.ownsRow_nil _ _ _ _, rfl⟩
    have hH : H.set b (.cells U [.row H.length]) ++ [Blk.row tg [] false] = (H ++ [Blk.row tg [] false]).set b (.cells U [.row H.length]) := by
      rw [List.set_append_left _ _ hbl]
    rw [hH]
    have hb1 : (H ++ [Blk.row tg [] false])[b]? = some (.cells U [.ext (.slice none 0 0)]) := by rw [List.getElem?_append_left hbl]; exact hb
    generalize hG : H ++ [Blk.row tg [] false] = G at *
    have hget : ∀ (i : Nat) (c : Blk), (G.set b (.cells U [.row H.length]))[i]? = some c → ∃ c0, G[i]? = some c0 ∧ c0.writable = c.writable ∧ ((i = b ∧ c = .cells U [.row H.length]) ∨ (i ≠ b ∧ c = c0)) := by
      intro i c hc
      rw [List.getElem?_set] at hc
      by_cases hi : b = i
      · subst hi
        have hbl' : b < G.length := by rw [← hG]; simp; omega
        simp [hbl'] at hc
        subst hc
        exact ⟨_, hb1, rfl, .inl ⟨rfl, rfl⟩⟩
      · rw [if_neg hi] at hc
        exact ⟨c, hc, rfl, .inr ⟨fun e => hi e.symm, rfl⟩⟩
    refine ⟨ρ ++ [Value.slice none 0 0], fset F H.length [], st.le, ⟨by rw [List.length_set]; exact st.sat.len, fun i c x hc hx => ?_, fun i c hc n hn => ?_, fun i j c d hc hd hij hw n hn => ?_⟩, ?_, fun f hf => by cases hf⟩
    · obtain ⟨c0, h0, _, h1⟩ := hget i c hc
      have hh := st.sat.each i c0 x h0 hx
      rcases h1 with ⟨rfl, rfl⟩ | ⟨_, rfl⟩
      · rw [hb1] at h0
        injection h0 with h0
        subst h0
        obtain ⟨bk, vs, e1, e2, e3, e4⟩ := hh
        refine ⟨bk, vs, e1, e2, ?_, e4⟩
        have hn : (ρ ++ [Value.slice none 0 0])[H.length]? = some (Value.slice none 0 0) := get_new hs _
        simp only [denL, V.den] at e3
        simp only [denL, V.den, hn]
        exact e3
      · exact hh
    · obtain ⟨c0, h0, _, _⟩ := hget i c hc
      exact st.sat.lt i c0 h0 n hn
    · obtain ⟨c0, h0, hw0, _⟩ := hget i c hc
      obtain ⟨d0, k0, _, _⟩ := hget j d hd
      exact st.sat.disj i j c0 d0 h0 k0 hij (by rw [hw0]; exact hw) n hn
    · refine st.fr.trans ⟨rfl, rfl, rfl, Nat.le_refl _, fun _ _ _ => rfl, fun i c hc hw n hn => ?_, fun i c hc n hn => ?_⟩
      · obtain ⟨c0, h0, hw0, _⟩ := hget i c hc
        exact .inr ⟨i, c0, h0, by rw [hw0]; exact hw, hn⟩
      · obtain ⟨c0, h0, _, _⟩ := hget i c hc
        exact .inr ⟨i, c0, h0, hn⟩
  · cases h
theorem nilRows_sound : ∀ (nx : List (Nat × Nat)) {H H' : Heap} {ρ : List Value} {F : Nat → List Nat} {env : Env} {a : Act}, cx.pins ≤ ρ0.length → nilRows nx H = some H' → St0 cfg cx ds ρ0 F0 H0 w0 ρ F env H a w → ∃ ρ' F', St0 cfg cx ds ρ0 F0 H0 w0 ρ' F' env H' a w
  | [], H, H', ρ, F, env, a, _, h, hs => by
    injection h with h
    subst h
    exact ⟨ρ, F, hs⟩
  | (b, tg) :: r, H, H', ρ, F, env, a, hp, h, hs => by
    simp only [nilRows] at h
    split at h
    · rename_i H1 h1
      obtain ⟨ρ1, F1, st⟩ := nilRow_step h1 hs.st.sat
      exact nilRows_sound r hp h (hs.step hp (a' := a) (env' := env) ⟨fun t => (hs.st.env t).le st.le, hs.st.size, hs.st.defers, st.sat⟩ st)
    · cases h
theorem exN_sound (ok : CfgOK cfg) (hsig : ∀ g s, cfg.sigs g = some s → SpecOK cfg.P cfg.elT g s) (hp : cx.pins ≤ ρ0.length) {nx : List (Nat × Nat)} : ∀ (c : Code) (K : Ex → Env → Heap → Prop) (env : Env) (H : Heap) (ρ : List Value) (F : Nat → List Nat) (a : Act) (w : World),
    exN cfg cx nx c env H K → St0 cfg cx ds ρ0 F0 H0 w0 ρ F env H a w → c.wp cfg.P (QK cfg cx ds ρ0 F0 H0 w0 K) a w := by
  intro c K env H ρ F a w h hs
  cases c with
  | seq x y =>
    simp only [exN] at h
    refine wp_seq (wp_mono (y40 ok hsig hp x _ env H ρ F a w h hs) (fun e a w hq => ?_))
    cases e with
    | normal =>
      obtain ⟨ρ', F', env', H', h1, h2⟩ := hq
      simp only at h2
      split at h2
      · rename_i H2 hn
        obtain ⟨ρ2, F2, h3⟩ := nilRows_sound nx hp hn h1
        exact y40 ok hsig hp y K env' H2 ρ2 F2 a w h2 h3
      · exact h2.elim
    | ret => obtain ⟨ρ', F', env', H', h1, h2⟩ := hq; exact h2.elim
    | exit i => obtain ⟨ρ', F', env', H', h1, h2⟩ := hq; exact h2.elim
    | goto l => exact hq.elim
    | panic ch => exact hq.elim
    | outgrown => exact hq.elim
  | _ => exact h.elim
theorem spec_of_exFN (ok : CfgOK cfg) (hsig : ∀ g s, cfg.sigs g = some s → SpecOK cfg.P cfg.elT g s) {nx : List (Nat × Nat)} {g : FuncId} {fn : Func} {s : Spec} (hg : cfg.P.funcs[g]? = some fn) (hname : (fn.name == "runtime.NumGoroutine") = false) (hb : fn.body.isNone = false)
    (h : ∀ (args : List V) (H : Heap) (K : V → Heap → Prop), s.tr args H K → exFN cfg nx fn args H K) : SpecOK cfg.P cfg.elT g s := by
  refine ⟨⟨fn, hg, hname, hb⟩, fun args H K htr ρ F w vals hden hsat => ?_⟩
  have hex := h args H K htr
  cases hc : fn.body with
  | none => rw [hc] at hb; cases hb
  | some c =>
    unfold exFN at hex
    rw [hc] at hex
    simp only at hex
    have hlen := denL_len hden
    have hst : St cfg (cxOf fn args H).nt [] ρ F (argEnv args) H { tmps := vals.toArray ++ Array.replicate (fn.ntmps - vals.toArray.size) undef, defers := [] } w :=
      ⟨argEnv_rel hden _, by simp [cxOf, hlen], rfl, hsat⟩
    have hs0 : St0 cfg (cxOf fn args H) [] ρ F H w ρ F (argEnv args) H { tmps := vals.toArray ++ Array.replicate (fn.ntmps - vals.toArray.size) undef, defers := [] } w :=
      ⟨hst, Fr.refl, fun _ _ => rfl⟩
    have hp : (cxOf fn args H).pins ≤ ρ.length := by rw [hsat.len]; exact Nat.le_refl _
    have hwp := exN_sound ok hsig hp c _ (argEnv args) H ρ F _ w hex hs0
    refine calls_of_wp hg hc (wp_mono hwp (fun e a' w' hq => ?_))
    have fin : ∀ (e : Ex) (ρ1 : List Value) (F1 : Nat → List Nat) (env1 : Env) (H1 : Heap), St0 cfg (cxOf fn args H) [] ρ F H w ρ1 F1 env1 H1 a' w' → retK cfg fn H.length K e env1 H1 →
        a'.defers = [] ∧ ∃ v, (results fn a'.tmps).run cfg.P w' = .ok v w' ∧ ∃ v' x ρ' F' H', Ending.returned v = .returned x ∧ K v' H' ∧ Rel ρ' v' x ∧ Le ρ ρ' ∧ Sat cfg.elT ρ' F' H' w' ∧ Fr H F w H' F' w' :=
      fun e ρ1 F1 env1 H1 hs1 hr => ⟨hs1.st.defers, ret_sound hsat hs1 hr⟩
    cases e with
    | normal => obtain ⟨ρ1, F1, env1, H1, h1, h2⟩ := hq; exact fin _ ρ1 F1 env1 H1 h1 h2
    | ret => obtain ⟨ρ1, F1, env1, H1, h1, h2⟩ := hq; exact fin _ ρ1 F1 env1 H1 h1 h2
    | exit i => obtain ⟨ρ1, F1, env1, H1, h1, h2⟩ := hq; exact h2.elim
    | goto l => exact hq.elim
    | panic ch => exact hq.elim
    | outgrown => exact hq.elim
end Go.Rx
end

noncomputable section
namespace Go.Rx
open Go.Proofs
set_option maxRecDepth 100000
set_option maxHeartbeats 4000000
abbrev Y9 := Nat → (List Int) → ya → Int → Bool → Option ((List Int) × Bool)
def y7v (m_ : Y9) (args : List V) (H : Heap) (K : V → Heap → Prop) : Prop :=
  aC args fun a0 r => aC r fun a1 r => aC r fun a2 r => aC r fun a3 r => aN r <| aPtr 0 a0 <| aPtr 1 a1 <| aPtr 2 a2 <| aPtr 3 a3 <| aC H fun b0 r => aC r fun b1 r => aC r fun b2 r => aC r fun b3 r => aC r fun b4 r => aN r <| bView 4 b0 fun ws cur xs => bCells b1 fun U c1 => yq c1 fun l2 => bCells b2 fun U2 c2 => aC c2 fun d2_0 r => aInt d2_0 fun q => aN r <| bCells b3 fun U3 c3 => aC c3 fun d3_0 r => aBool d3_0 fun right => aN r <| bRow 0 true b4 fun (l : List Int) => ws = l ∧ xs.length ≤ 2 ∧ So (m_ ws.length cur l2 q right) fun x => K (.tup []) [.pk 0 [ws, x.1] xs [.row 4], .cells U (yc l2), .cells U2 [vi q], .cells U3 [vb x.2], .row 0 l true]
def y7t (m_ : Y9) : Spec := ⟨y7v m_, (true : Bool)⟩
abbrev Y5 := Nat → (List Int) → ya → Int → Int → Int → Int → Option ((List Int) × Int × Int × Int × Int)
def y7l (m_ : Y5) (args : List V) (H : Heap) (K : V → Heap → Prop) : Prop :=
  aC args fun a0 r => aC r fun a1 r => aC r fun a2 r => aN r <| aPtr 0 a0 <| aPtr 1 a1 <| aPtr 2 a2 <| aC H fun b0 r => aC r fun b1 r => aC r fun b2 r => aC r fun b3 r => aN r <| bView 3 b0 fun ws cur xs => bCells b1 fun U c1 => yq c1 fun l2 => bCells b2 fun U2 c2 => aC c2 fun d2_0 r => aInt d2_0 fun a_0 => aC r fun d2_1 r => aInt d2_1 fun a_1 => aC r fun d2_2 r => aInt d2_2 fun a_2 => aC r fun d2_3 r => aInt d2_3 fun a_3 => aN r <| bRow 0 true b3 fun (l : List Int) => ws = l ∧ xs.length ≤ 2 ∧ So (m_ ws.length cur l2 a_0 a_1 a_2 a_3) fun x => K (.tup []) [.pk 0 [ws, x.1] xs [.row 3], .cells U (yc l2), .cells U2 [vi x.2.1, vi x.2.2.1, vi x.2.2.2.1, vi x.2.2.2.2], .row 0 l true]
def y9b (m_ : Y5) : Spec := ⟨y7l m_, (true : Bool)⟩
def y84 (m_ : Nat → (List Int) → ya → (List (List Int)) → Option ((List Int) × (List Int))) (args : List V) (H : Heap) (K : V → Heap → Prop) : Prop :=
  aC args fun a0 r => aC r fun a1 r => aC r fun a2 r => aC r fun a3 r => aN r <| aPtr 0 a0 <| aPtr 1 a1 <| aPtr 2 a2 <| aPtr 3 a3 <| aC H fun b0 r => aC r fun b1 r => aC r fun b2 r => aC r fun b3 r => aC r fun b4 r => aC r fun b5 r => aN r <| bView 4 b0 fun ws cur xs => bCells b1 fun U c1 => aC c1 fun d1_0 r => aNilS d1_0 <| aN r <| bCells b2 fun U2 c2 => aC c2 fun d2_0 r => aRow 5 d2_0 <| aN r <| bCells b3 fun U3 c3 => yq c3 fun l2 => bRow 0 true b4 fun (l : List Int) => bRow 6 true b5 fun (acts : List (List Int)) => ws = l ∧ xs.length ≤ 2 ∧ So (m_ ws.length cur l2 acts) fun x => K (.tup []) [.pk 0 [ws, x.1] xs [.row 4], .cells U [.row 6], .cells U2 [.row 5], .cells U3 (yc l2), .row 0 l true, .row 6 acts true, .row 0 x.2 false]
def y6e (m_ : Nat → (List Int) → ya → (List (List Int)) → Option ((List Int) × (List Int))) : Spec := ⟨y84 m_, (true : Bool)⟩
def yc1 (yx : Y0) (y01 : Y11) (y09 : Y10) : Cfg := { cfgB with
  sigs := (sigC 29 (y5k yx) (sigC 25 (y58 y01) (sigC 30 (y8r y09) sigN))) }
def y2w (y01 : Y11) (yx : Y0) : Cfg := { cfgB with
  sigs := (sigC 25 (y58 y01) (sigC 29 (y5k yx) sigN)),
  keep := fun r => match r with | 1 => some [(0, none), (1, none), (2, none), (4, none)] | _ => none }
def y2x (y0a : Y26) (y0m : Y35) (y0j : Y18) (y0c : Y34) : Cfg := { cfgB with
  sigs := (sigC 36 (y6w y0a) (sigC 8 (yaw y0m) (sigC 12 (ybb y0j) (sigC 15 (ydw y0c) sigN)))),
  keep := fun r => match r with | 2 => some [(0, none), (1, none), (2, none), (3, none), (5, none)] | _ => none,
  plan := fun r => match r with | 4 => some ([0, 1, 3, 4, 5, 6, 2, 7, 8], 16) | _ => none,
  planT := fun r => match r with | 5 => some ((chainT [0, 1, 2, 3, 4, 5, 6] (.alt (chainT [7, 8, 9] .fin) (chainT [8, 7, 9] .fin))), 21990232555537) | _ => none }
theorem yjn (yx : Y0) (y01 : Y11) (y09 : Y10) (ws cur : List Int) (xs : List Value) (l2 : ya) (q : Int) (right : Bool) (U U2 U3 : TypeId) (K : V → Heap → Prop) : (exF (yc1 yx y01 y09) Tryz.f28 [.ptr 0 0, .ptr 1 0, .ptr 2 0, .ptr 3 0] [.pk 0 [ws, cur] xs [.row 4], .cells U (yc l2), .cells U2 [vi q], .cells U3 [vb right], .row 0 ws true] K) = (
    ((ws = ws) ∧ ((xs.length ≤ 2) ∧ (So (yx ws.length cur l2 q) (fun (y0 : Int) => ((ws = ws) ∧ ((xs.length ≤ 2) ∧ (So (y01 ws.length cur l2 q) (fun (y1 : Int × Bool × List Int) => (br (!y1.2.1) ((ws = ws) ∧ ((xs.length ≤ 2) ∧ (So (y09 ws.length y1.2.2 l2 y1.1) (fun (y2 : Bool × List Int) => (K (.tup []) [.pk 0 [ws, y2.2] xs [.row 4], .cells U (yc l2), .cells U2 [vi q], .cells U3 [vb (!y2.1)], .row 0 ws true]))))) ((ws = ws) ∧ ((xs.length ≤ 2) ∧ (So (y09 ws.length y1.2.2 l2 y1.1) (fun (y3 : Bool × List Int) => (br y3.1 ((ws = ws) ∧ ((xs.length ≤ 2) ∧ (So (y09 ws.length y3.2 l2 y1.1) (fun (y4 : Bool × List Int) => (br (!y4.1) ((ws = ws) ∧ ((xs.length ≤ 2) ∧ (So (yx ws.length y4.2 l2 q) (fun (y5 : Int) => (K (.tup []) [.pk 0 [ws, y4.2] xs [.row 4], .cells U (yc l2), .cells U2 [vi q], .cells U3 [vb (y5 == y0)], .row 0 ws true]))))) (K (.tup []) [.pk 0 [ws, y4.2] xs [.row 4], .cells U (yc l2), .cells U2 [vi q], .cells U3 [vb false], .row 0 ws true])))))) (K (.tup []) [.pk 0 [ws, y3.2] xs [.row 4], .cells U (yc l2), .cells U2 [vi q], .cells U3 [vb false], .row 0 ws true])))))))))))))))) := by kernel_rfl
theorem yjp (y01 : Y11) (yx : Y0) (ws cur : List Int) (xs : List Value) (l2 : ya) (a_0 a_1 : Int) (a_2 a_3 : Int) (U U2 : TypeId) (iv : Int) (cur2 : List Int) (c c2 : Int) (c3 c4 : Int) (K : V → Heap → Prop) (J1 : Env → Heap → Prop) : (ex (y2w y01 yx) (⟨21, 4⟩ : Cx) (at_ (bodyOf Tryz.f35) [0, 1, 0, 0]) (mkEnv [(0, .ptr 0 0), (1, .ptr 1 0), (2, .ptr 2 0), (4, vi iv)]) [.pk 0 [ws, cur2] xs [.row 3], .cells U (yc l2), .cells U2 [vi c, vi c2, vi c3, vi c4], .row 0 ws true] (roundK (y2w y01 yx) (⟨21, 4⟩ : Cx) (at_ (bodyOf Tryz.f35) [0, 1, 0, 0]) (contK (y2w y01 yx) (⟨21, 4⟩ : Cx) (bodyOf Tryz.f35) [0, 1, 0] (retK (y2w y01 yx) Tryz.f35 4 K)) J1)) = (
    br (decide (iv < 3)) ((ws = ws) ∧ ((xs.length ≤ 2) ∧ (So (y01 ws.length cur2 l2 4) (fun (y0 : Int × Bool × List Int) => (Req (inR iv 4) (br (iv == (↑0 : Int)) (J1 (mkEnv [(0, .ptr 0 0), (1, .ptr 1 0), (2, .ptr 2 0), (4, vi (IntKind.i64.wrap (iv + 1)))]) [.pk 0 [ws, y0.2.2] xs [.row 3], .cells U (yc l2), .cells U2 [vi y0.1, vi c2, vi c3, vi c4], .row 0 ws true]) (br (iv == (↑1 : Int)) (J1 (mkEnv [(0, .ptr 0 0), (1, .ptr 1 0), (2, .ptr 2 0), (4, vi (IntKind.i64.wrap (iv + 1)))]) [.pk 0 [ws, y0.2.2] xs [.row 3], .cells U (yc l2), .cells U2 [vi c, vi y0.1, vi c3, vi c4], .row 0 ws true]) (br (iv == (↑2 : Int)) (J1 (mkEnv [(0, .ptr 0 0), (1, .ptr 1 0), (2, .ptr 2 0), (4, vi (IntKind.i64.wrap (iv + 1)))]) [.pk 0 [ws, y0.2.2] xs [.row 3], .cells U (yc l2), .cells U2 [vi c, vi c2, vi y0.1, vi c4], .row 0 ws true]) (br (iv == (↑3 : Int)) (J1 (mkEnv [(0, .ptr 0 0), (1, .ptr 1 0), (2, .ptr 2 0), (4, vi (IntKind.i64.wrap (iv + 1)))]) [.pk 0 [ws, y0.2.2] xs [.row 3], .cells U (yc l2), .cells U2 [vi c, vi c2, vi c3, vi y0.1], .row 0 ws true]) True))))))))) ((ws = ws) ∧ ((xs.length ≤ 2) ∧ (So (yx ws.length cur2 l2 4) (fun (y1 : Int) => (K (.tup []) [.pk 0 [ws, cur2] xs [.row 3], .cells U (yc l2), .cells U2 [vi c, vi c2, vi c3, vi y1], .row 0 ws true])))))) := by kernel_rfl
theorem yg9 (y01 : Y11) (yx : Y0) (ws cur : List Int) (xs : List Value) (l2 : ya) (a_0 a_1 : Int) (a_2 a_3 : Int) (U U2 : TypeId) (K : V → Heap → Prop) : (exF (y2w y01 yx) Tryz.f35 [.ptr 0 0, .ptr 1 0, .ptr 2 0] [.pk 0 [ws, cur] xs [.row 3], .cells U (yc l2), .cells U2 [vi a_0, vi a_1, vi a_2, vi a_3], .row 0 ws true] K) = (
    Loop (y2w y01 yx) (⟨21, 4⟩ : Cx) (at_ (bodyOf Tryz.f35) [0, 1, 0, 0]) (mkEnv [(0, .ptr 0 0), (1, .ptr 1 0), (2, .ptr 2 0), (4, vi 0)]) [.pk 0 [ws, cur] xs [.row 3], .cells U (yc l2), .cells U2 [vi a_0, vi a_1, vi a_2, vi a_3], .row 0 ws true] (contK (y2w y01 yx) (⟨21, 4⟩ : Cx) (bodyOf Tryz.f35) [0, 1, 0] (retK (y2w y01 yx) Tryz.f35 4 K))) := by kernel_rfl
theorem yf5 (y0a : Y26) (y0m : Y35) (y0j : Y18) (y0c : Y34) (ws cur : List Int) (xs : List Value) (l2 : ya) (acts : List (List Int)) (U U2 U3 : TypeId) (iv : Int) (cur2 w : List Int) (K : V → Heap → Prop) (J1 : Env → Heap → Prop) : (ex (y2x y0a y0m y0j y0c) (⟨76, 6⟩ : Cx) (at_ (bodyOf Tryz.f48) [1, 1, 0, 0]) (mkEnv [(0, .ptr 0 0), (1, .ptr 1 0), (2, .ptr 2 0), (3, .ptr 3 0), (5, vi iv)]) [.pk 0 [ws, cur2] xs [.row 4], .cells U [.row 6], .cells U2 [.row 5], .cells U3 (yc l2), .row 0 ws true, .row 6 acts true, .row 0 w false] (roundK (y2x y0a y0m y0j y0c) (⟨76, 6⟩ : Cx) (at_ (bodyOf Tryz.f48) [1, 1, 0, 0]) (contK (y2x y0a y0m y0j y0c) (⟨76, 6⟩ : Cx) (bodyOf Tryz.f48) [1, 1, 0] (retK (y2x y0a y0m y0j y0c) Tryz.f48 6 K)) J1)) = (
    br (decide (iv < (↑acts.length : Int))) (Req (inR iv acts.length) (Req (inR (offs iv 0) acts.length) (So (y0a l2) (fun (y0 : Int) => (So (y0m y0 (yj.mk (List.getD (acts.getD (Int.toNat (offs iv (0 : Nat))) (List.replicate (3 : Nat) (0 : Int))) (0 : Nat) (0 : Int)) (List.getD (acts.getD (Int.toNat (offs iv (0 : Nat))) (List.replicate (3 : Nat) (0 : Int))) (1 : Nat) (0 : Int)) (List.getD (acts.getD (Int.toNat (offs iv (0 : Nat))) (List.replicate (3 : Nat) (0 : Int))) (2 : Nat) (0 : Int))) w) (fun (y1 : Int) => (Req (inR iv acts.length) (Req (inR (offs iv 0) acts.length) (((ws = ws) ∧ ((xs.length ≤ 2) ∧ (So (y0j ws.length cur2 l2 (yj.mk (List.getD (acts.getD (Int.toNat (offs iv (0 : Nat))) (List.replicate (3 : Nat) (0 : Int))) (0 : Nat) (0 : Int)) (List.getD (acts.getD (Int.toNat (offs iv (0 : Nat))) (List.replicate (3 : Nat) (0 : Int))) (1 : Nat) (0 : Int)) (List.getD (acts.getD (Int.toNat (offs iv (0 : Nat))) (List.replicate (3 : Nat) (0 : Int))) (2 : Nat) (0 : Int))) y1) (fun (y2 : Int × Int × Int × Int × List Int) => (Req (inR iv acts.length) (Req (inR (offs iv 0) acts.length) (br (decide (List.getD (acts.getD (Int.toNat (offs iv (0 : Nat))) (List.replicate (3 : Nat) (0 : Int))) (0 : Nat) (0 : Int) ≥ (0 : Int))) (Req (inR iv acts.length) (Req (inR (offs iv 0) acts.length) (br (decide (List.getD (acts.getD (Int.toNat (offs iv (0 : Nat))) (List.replicate (3 : Nat) (0 : Int))) (0 : Nat) (0 : Int) < (2 : Int))) (br (y2.2.1 == 1) (Req (decide (w.length + 1 ≤ 1048576)) (J1 (mkEnv [(0, .ptr 0 0), (1, .ptr 1 0), (2, .ptr 2 0), (3, .ptr 3 0), (5, vi (IntKind.i64.wrap (iv + 1)))]) [.pk 0 [ws, y2.2.2.2.2] xs [.row 4], .cells U [.row 6], .cells U2 [.row 5], .cells U3 (yc l2), .row 0 ws true, .row 6 acts true, .row 0 (w ++ [y2.1] : List Int) false])) (Req (inR iv acts.length) (Req (inR (offs iv 0) acts.length) (br (decide (List.getD (acts.getD (Int.toNat (offs iv (0 : Nat))) (List.replicate (3 : Nat) (0 : Int))) (0 : Nat) (0 : Int) ≥ (2 : Int))) (Req (inR iv acts.length) (Req (inR (offs iv 0) acts.length) (br (decide (List.getD (acts.getD (Int.toNat (offs iv (0 : Nat))) (List.replicate (3 : Nat) (0 : Int))) (0 : Nat) (0 : Int) < (4 : Int))) (br (y2.1 == 1) (So (y0c y1 w) (fun (y3 : List Int) => (J1 (mkEnv [(0, .ptr 0 0), (1, .ptr 1 0), (2, .ptr 2 0), (3, .ptr 3 0), (5, vi (IntKind.i64.wrap (iv + 1)))]) [.pk 0 [ws, y2.2.2.2.2] xs [.row 4], .cells U [.row 6], .cells U2 [.row 5], .cells U3 (yc l2), .row 0 ws true, .row 6 acts true, .row 0 y3 false]))) (J1 (mkEnv [(0, .ptr 0 0), (1, .ptr 1 0), (2, .ptr 2 0), (3, .ptr 3 0), (5, vi (IntKind.i64.wrap (iv + 1)))]) [.pk 0 [ws, y2.2.2.2.2] xs [.row 4], .cells U [.row 6], .cells U2 [.row 5], .cells U3 (yc l2), .row 0 ws true, .row 6 acts true, .row 0 w false])) (J1 (mkEnv [(0, .ptr 0 0), (1, .ptr 1 0), (2, .ptr 2 0), (3, .ptr 3 0), (5, vi (IntKind.i64.wrap (iv + 1)))]) [.pk 0 [ws, y2.2.2.2.2] xs [.row 4], .cells U [.row 6], .cells U2 [.row 5], .cells U3 (yc l2), .row 0 ws true, .row 6 acts true, .row 0 w false])))) (J1 (mkEnv [(0, .ptr 0 0), (1, .ptr 1 0), (2, .ptr 2 0), (3, .ptr 3 0), (5, vi (IntKind.i64.wrap (iv + 1)))]) [.pk 0 [ws, y2.2.2.2.2] xs [.row 4], .cells U [.row 6], .cells U2 [.row 5], .cells U3 (yc l2), .row 0 ws true, .row 6 acts true, .row 0 w false]))))) (Req (inR iv acts.length) (Req (inR (offs iv 0) acts.length) (br (decide (List.getD (acts.getD (Int.toNat (offs iv (0 : Nat))) (List.replicate (3 : Nat) (0 : Int))) (0 : Nat) (0 : Int) ≥ (2 : Int))) (Req (inR iv acts.length) (Req (inR (offs iv 0) acts.length) (br (decide (List.getD (acts.getD (Int.toNat (offs iv (0 : Nat))) (List.replicate (3 : Nat) (0 : Int))) (0 : Nat) (0 : Int) < (4 : Int))) (br (y2.1 == 1) (So (y0c y1 w) (fun (y4 : List Int) => (J1 (mkEnv [(0, .ptr 0 0), (1, .ptr 1 0), (2, .ptr 2 0), (3, .ptr 3 0), (5, vi (IntKind.i64.wrap (iv + 1)))]) [.pk 0 [ws, y2.2.2.2.2] xs [.row 4], .cells U [.row 6], .cells U2 [.row 5], .cells U3 (yc l2), .row 0 ws true, .row 6 acts true, .row 0 y4 false]))) (J1 (mkEnv [(0, .ptr 0 0), (1, .ptr 1 0), (2, .ptr 2 0), (3, .ptr 3 0), (5, vi (IntKind.i64.wrap (iv + 1)))]) [.pk 0 [ws, y2.2.2.2.2] xs [.row 4], .cells U [.row 6], .cells U2 [.row 5], .cells U3 (yc l2), .row 0 ws true, .row 6 acts true, .row 0 w false])) (J1 (mkEnv [(0, .ptr 0 0), (1, .ptr 1 0), (2, .ptr 2 0), (3, .ptr 3 0), (5, vi (IntKind.i64.wrap (iv + 1)))]) [.pk 0 [ws, y2.2.2.2.2] xs [.row 4], .cells U [.row 6], .cells U2 [.row 5], .cells U3 (yc l2), .row 0 ws true, .row 6 acts true, .row 0 w false])))) (J1 (mkEnv [(0, .ptr 0 0), (1, .ptr 1 0), (2, .ptr 2 0), (3, .ptr 3 0), (5, vi (IntKind.i64.wrap (iv + 1)))]) [.pk 0 [ws, y2.2.2.2.2] xs [.row 4], .cells U [.row 6], .cells U2 [.row 5], .cells U3 (yc l2), .row 0 ws true, .row 6 acts true, .row 0 w false]))))))) (Req (inR iv acts.length) (Req (inR (offs iv 0) acts.length) (br (decide (List.getD (acts.getD (Int.toNat (offs iv (0 : Nat))) (List.replicate (3 : Nat) (0 : Int))) (0 : Nat) (0 : Int) ≥ (2 : Int))) (Req (inR iv acts.length) (Req (inR (offs iv 0) acts.length) (br (decide (List.getD (acts.getD (Int.toNat (offs iv (0 : Nat))) (List.replicate (3 : Nat) (0 : Int))) (0 : Nat) (0 : Int) < (4 : Int))) (br (y2.1 == 1) (So (y0c y1 w) (fun (y5 : List Int) => (J1 (mkEnv [(0, .ptr 0 0), (1, .ptr 1 0), (2, .ptr 2 0), (3, .ptr 3 0), (5, vi (IntKind.i64.wrap (iv + 1)))]) [.pk 0 [ws, y2.2.2.2.2] xs [.row 4], .cells U [.row 6], .cells U2 [.row 5], .cells U3 (yc l2), .row 0 ws true, .row 6 acts true, .row 0 y5 false]))) (J1 (mkEnv [(0, .ptr 0 0), (1, .ptr 1 0), (2, .ptr 2 0), (3, .ptr 3 0), (5, vi (IntKind.i64.wrap (iv + 1)))]) [.pk 0 [ws, y2.2.2.2.2] xs [.row 4], .cells U [.row 6], .cells U2 [.row 5], .cells U3 (yc l2), .row 0 ws true, .row 6 acts true, .row 0 w false])) (J1 (mkEnv [(0, .ptr 0 0), (1, .ptr 1 0), (2, .ptr 2 0), (3, .ptr 3 0), (5, vi (IntKind.i64.wrap (iv + 1)))]) [.pk 0 [ws, y2.2.2.2.2] xs [.row 4], .cells U [.row 6], .cells U2 [.row 5], .cells U3 (yc l2), .row 0 ws true, .row 6 acts true, .row 0 w false])))) (J1 (mkEnv [(0, .ptr 0 0), (1, .ptr 1 0), (2, .ptr 2 0), (3, .ptr 3 0), (5, vi (IntKind.i64.wrap (iv + 1)))]) [.pk 0 [ws, y2.2.2.2.2] xs [.row 4], .cells U [.row 6], .cells U2 [.row 5], .cells U3 (yc l2), .row 0 ws true, .row 6 acts true, .row 0 w false]))))))))))) ∧ ((ws = ws) ∧ ((xs.length ≤ 2) ∧ (So (y0j ws.length cur2 l2 (yj.mk (List.getD (acts.getD (Int.toNat (offs iv (0 : Nat))) (List.replicate (3 : Nat) (0 : Int))) (0 : Nat) (0 : Int)) (List.getD (acts.getD (Int.toNat (offs iv (0 : Nat))) (List.replicate (3 : Nat) (0 : Int))) (1 : Nat) (0 : Int)) (List.getD (acts.getD (Int.toNat (offs iv (0 : Nat))) (List.replicate (3 : Nat) (0 : Int))) (2 : Nat) (0 : Int))) y1) (fun (y6 : Int × Int × Int × Int × List Int) => (Req (inR iv acts.length) (Req (inR (offs iv 0) acts.length) (br (decide (List.getD (acts.getD (Int.toNat (offs iv (0 : Nat))) (List.replicate (3 : Nat) (0 : Int))) (0 : Nat) (0 : Int) ≥ (0 : Int))) (Req (inR iv acts.length) (Req (inR (offs iv 0) acts.length) (br (decide (List.getD (acts.getD (Int.toNat (offs iv (0 : Nat))) (List.replicate (3 : Nat) (0 : Int))) (0 : Nat) (0 : Int) < (2 : Int))) (br (y6.2.1 == 1) (Req (decide (w.length + 1 ≤ 1048576)) (J1 (mkEnv [(0, .ptr 0 0), (1, .ptr 1 0), (2, .ptr 2 0), (3, .ptr 3 0), (5, vi (IntKind.i64.wrap (iv + 1)))]) [.pk 0 [ws, y6.2.2.2.2] xs [.row 4], .cells U [.row 6], .cells U2 [.row 5], .cells U3 (yc l2), .row 0 ws true, .row 6 acts true, .row 0 (w ++ [y6.1] : List Int) false])) (Req (inR iv acts.length) (Req (inR (offs iv 0) acts.length) (br (decide (List.getD (acts.getD (Int.toNat (offs iv (0 : Nat))) (List.replicate (3 : Nat) (0 : Int))) (0 : Nat) (0 : Int) ≥ (2 : Int))) (Req (inR iv acts.length) (Req (inR (offs iv 0) acts.length) (br (decide (List.getD (acts.getD (Int.toNat (offs iv (0 : Nat))) (List.replicate (3 : Nat) (0 : Int))) (0 : Nat) (0 : Int) < (4 : Int))) (br (y6.1 == 1) (So (y0c y1 w) (fun (y7 : List Int) => (J1 (mkEnv [(0, .ptr 0 0), (1, .ptr 1 0), (2, .ptr 2 0), (3, .ptr 3 0), (5, vi (IntKind.i64.wrap (iv + 1)))]) [.pk 0 [ws, y6.2.2.2.2] xs [.row 4], .cells U [.row 6], .cells U2 [.row 5], .cells U3 (yc l2), .row 0 ws true, .row 6 acts true, .row 0 y7 false]))) (J1 (mkEnv [(0, .ptr 0 0), (1, .ptr 1 0), (2, .ptr 2 0), (3, .ptr 3 0), (5, vi (IntKind.i64.wrap (iv + 1)))]) [.pk 0 [ws, y6.2.2.2.2] xs [.row 4], .cells U [.row 6], .cells U2 [.row 5], .cells U3 (yc l2), .row 0 ws true, .row 6 acts true, .row 0 w false])) (J1 (mkEnv [(0, .ptr 0 0), (1, .ptr 1 0), (2, .ptr 2 0), (3, .ptr 3 0), (5, vi (IntKind.i64.wrap (iv + 1)))]) [.pk 0 [ws, y6.2.2.2.2] xs [.row 4], .cells U [.row 6], .cells U2 [.row 5], .cells U3 (yc l2), .row 0 ws true, .row 6 acts true, .row 0 w false])))) (J1 (mkEnv [(0, .ptr 0 0), (1, .ptr 1 0), (2, .ptr 2 0), (3, .ptr 3 0), (5, vi (IntKind.i64.wrap (iv + 1)))]) [.pk 0 [ws, y6.2.2.2.2] xs [.row 4], .cells U [.row 6], .cells U2 [.row 5], .cells U3 (yc l2), .row 0 ws true, .row 6 acts true, .row 0 w false]))))) (Req (inR iv acts.length) (Req (inR (offs iv 0) acts.length) (br (decide (List.getD (acts.getD (Int.toNat (offs iv (0 : Nat))) (List.replicate (3 : Nat) (0 : Int))) (0 : Nat) (0 : Int) ≥ (2 : Int))) (Req (inR iv acts.length) (Req (inR (offs iv 0) acts.length) (br (decide (List.getD (acts.getD (Int.toNat (offs iv (0 : Nat))) (List.replicate (3 : Nat) (0 : Int))) (0 : Nat) (0 : Int) < (4 : Int))) (br (y6.1 == 1) (So (y0c y1 w) (fun (y8 : List Int) => (J1 (mkEnv [(0, .ptr 0 0), (1, .ptr 1 0), (2, .ptr 2 0), (3, .ptr 3 0), (5, vi (IntKind.i64.wrap (iv + 1)))]) [.pk 0 [ws, y6.2.2.2.2] xs [.row 4], .cells U [.row 6], .cells U2 [.row 5], .cells U3 (yc l2), .row 0 ws true, .row 6 acts true, .row 0 y8 false]))) (J1 (mkEnv [(0, .ptr 0 0), (1, .ptr 1 0), (2, .ptr 2 0), (3, .ptr 3 0), (5, vi (IntKind.i64.wrap (iv + 1)))]) [.pk 0 [ws, y6.2.2.2.2] xs [.row 4], .cells U [.row 6], .cells U2 [.row 5], .cells U3 (yc l2), .row 0 ws true, .row 6 acts true, .row 0 w false])) (J1 (mkEnv [(0, .ptr 0 0), (1, .ptr 1 0), (2, .ptr 2 0), (3, .ptr 3 0), (5, vi (IntKind.i64.wrap (iv + 1)))]) [.pk 0 [ws, y6.2.2.2.2] xs [.row 4], .cells U [.row 6], .cells U2 [.row 5], .cells U3 (yc l2), .row 0 ws true, .row 6 acts true, .row 0 w false])))) (J1 (mkEnv [(0, .ptr 0 0), (1, .ptr 1 0), (2, .ptr 2 0), (3, .ptr 3 0), (5, vi (IntKind.i64.wrap (iv + 1)))]) [.pk 0 [ws, y6.2.2.2.2] xs [.row 4], .cells U [.row 6], .cells U2 [.row 5], .cells U3 (yc l2), .row 0 ws true, .row 6 acts true, .row 0 w false]))))))) (Req (inR iv acts.length) (Req (inR (offs iv 0) acts.length) (br (decide (List.getD (acts.getD (Int.toNat (offs iv (0 : Nat))) (List.replicate (3 : Nat) (0 : Int))) (0 : Nat) (0 : Int) ≥ (2 : Int))) (Req (inR iv acts.length) (Req (inR (offs iv 0) acts.length) (br (decide (List.getD (acts.getD (Int.toNat (offs iv (0 : Nat))) (List.replicate (3 : Nat) (0 : Int))) (0 : Nat) (0 : Int) < (4 : Int))) (br (y6.1 == 1) (So (y0c y1 w) (fun (y9 : List Int) => (J1 (mkEnv [(0, .ptr 0 0), (1, .ptr 1 0), (2, .ptr 2 0), (3, .ptr 3 0), (5, vi (IntKind.i64.wrap (iv + 1)))]) [.pk 0 [ws, y6.2.2.2.2] xs [.row 4], .cells U [.row 6], .cells U2 [.row 5], .cells U3 (yc l2), .row 0 ws true, .row 6 acts true, .row 0 y9 false]))) (J1 (mkEnv [(0, .ptr 0 0), (1, .ptr 1 0), (2, .ptr 2 0), (3, .ptr 3 0), (5, vi (IntKind.i64.wrap (iv + 1)))]) [.pk 0 [ws, y6.2.2.2.2] xs [.row 4], .cells U [.row 6], .cells U2 [.row 5], .cells U3 (yc l2), .row 0 ws true, .row 6 acts true, .row 0 w false])) (J1 (mkEnv [(0, .ptr 0 0), (1, .ptr 1 0), (2, .ptr 2 0), (3, .ptr 3 0), (5, vi (IntKind.i64.wrap (iv + 1)))]) [.pk 0 [ws, y6.2.2.2.2] xs [.row 4], .cells U [.row 6], .cells U2 [.row 5], .cells U3 (yc l2), .row 0 ws true, .row 6 acts true, .row 0 w false])))) (J1 (mkEnv [(0, .ptr 0 0), (1, .ptr 1 0), (2, .ptr 2 0), (3, .ptr 3 0), (5, vi (IntKind.i64.wrap (iv + 1)))]) [.pk 0 [ws, y6.2.2.2.2] xs [.row 4], .cells U [.row 6], .cells U2 [.row 5], .cells U3 (yc l2), .row 0 ws true, .row 6 acts true, .row 0 w false])))))))))))))))))))) (K (.tup []) [.pk 0 [ws, cur2] xs [.row 4], .cells U [.row 6], .cells U2 [.row 5], .cells U3 (yc l2), .row 0 ws true, .row 6 acts true, .row 0 w false])) := by kernel_rfl
theorem yhs (y0a : Y26) (y0m : Y35) (y0j : Y18) (y0c : Y34) (ws cur : List Int) (xs : List Value) (l2 : ya) (acts : List (List Int)) (U U2 U3 : TypeId) (K : V → Heap → Prop) : (exFN (y2x y0a y0m y0j y0c) [(1, 0)] Tryz.f48 [.ptr 0 0, .ptr 1 0, .ptr 2 0, .ptr 3 0] [.pk 0 [ws, cur] xs [.row 4], .cells U [.ext (.slice none 0 0)], .cells U2 [.row 5], .cells U3 (yc l2), .row 0 ws true, .row 6 acts true] K) = (
    Loop (y2x y0a y0m y0j y0c) (⟨76, 6⟩ : Cx) (at_ (bodyOf Tryz.f48) [1, 1, 0, 0]) (mkEnv [(0, .ptr 0 0), (1, .ptr 1 0), (2, .ptr 2 0), (3, .ptr 3 0), (5, vi 0)]) [.pk 0 [ws, cur] xs [.row 4], .cells U [.row 6], .cells U2 [.row 5], .cells U3 (yc l2), .row 0 ws true, .row 6 acts true, .row 0 ([] : List Int) false] (contK (y2x y0a y0m y0j y0c) (⟨76, 6⟩ : Cx) (bodyOf Tryz.f48) [1, 1, 0] (retK (y2x y0a y0m y0j y0c) Tryz.f48 6 K))) := by kernel_rfl
def y0n (nw : Nat) (cur : List Int) (l2 : ya) (q : Int) (right : Bool) : Option ((List Int) × Bool) :=
  ((yx nw cur l2 q).bind fun y0 => ((y01 nw cur l2 q).bind fun y1 => (bif (!y1.2.1) then ((y09 nw y1.2.2 l2 y1.1).bind fun y2 => some (y2.2, (!y2.1))) else ((y09 nw y1.2.2 l2 y1.1).bind fun y3 => (bif y3.1 then ((y09 nw y3.2 l2 y1.1).bind fun y4 => (bif (!y4.1) then ((yx nw y4.2 l2 q).bind fun y5 => some (y4.2, (y5 == y0))) else some (y4.2, false))) else some (y3.2, false))))))
def y3b (nw : Nat) (l2 : ya) (iv : Int) (cur2 : List Int) (c c2 : Int) (c3 c4 : Int) : Option ((Int × (List Int) × Int × Int × Int × Int) ⊕ ((List Int) × Int × Int × Int × Int)) :=
  (bif (decide (iv < 3)) then ((y01 nw cur2 l2 4).bind fun y0 => (bif (inR iv 4) then (bif (iv == (↑0 : Int)) then some (.inl ((IntKind.i64.wrap (iv + 1)), y0.2.2, y0.1, c2, c3, c4)) else (bif (iv == (↑1 : Int)) then some (.inl ((IntKind.i64.wrap (iv + 1)), y0.2.2, c, y0.1, c3, c4)) else (bif (iv == (↑2 : Int)) then some (.inl ((IntKind.i64.wrap (iv + 1)), y0.2.2, c, c2, y0.1, c4)) else (bif (iv == (↑3 : Int)) then some (.inl ((IntKind.i64.wrap (iv + 1)), y0.2.2, c, c2, c3, y0.1)) else none)))) else none)) else ((yx nw cur2 l2 4).bind fun y1 => some (.inr (cur2, c, c2, c3, y1))))
def ydb (nw : Nat) (l2 : ya) (s : Int × (List Int) × Int × Int × Int × Int) : Option ((List Int) × Int × Int × Int × Int) :=
  loopO (fun s => y3b nw l2 s.1 s.2.1 s.2.2.1 s.2.2.2.1 s.2.2.2.2.1 s.2.2.2.2.2) s
def y2p (nw : Nat) (cur : List Int) (l2 : ya) (a_0 a_1 : Int) (a_2 a_3 : Int) : Option ((List Int) × Int × Int × Int × Int) :=
  (ydb nw l2 (0, cur, a_0, a_1, a_2, a_3))
def y4g (nw : Nat) (l2 : ya) (acts : List (List Int)) (iv : Int) (cur2 w : List Int) : Option ((Int × (List Int) × (List Int)) ⊕ ((List Int) × (List Int))) :=
  (bif (decide (iv < (↑acts.length : Int))) then (bif (inR iv acts.length) then (bif (inR (offs iv 0) acts.length) then ((y0a l2).bind fun y0 => ((y0m y0 (yj.mk (List.getD (acts.getD (Int.toNat (offs iv (0 : Nat))) (List.replicate (3 : Nat) (0 : Int))) (0 : Nat) (0 : Int)) (List.getD (acts.getD (Int.toNat (offs iv (0 : Nat))) (List.replicate (3 : Nat) (0 : Int))) (1 : Nat) (0 : Int)) (List.getD (acts.getD (Int.toNat (offs iv (0 : Nat))) (List.replicate (3 : Nat) (0 : Int))) (2 : Nat) (0 : Int))) w).bind fun y1 => (bif (inR iv acts.length) then (bif (inR (offs iv 0) acts.length) then ((y0j nw cur2 l2 (yj.mk (List.getD (acts.getD (Int.toNat (offs iv (0 : Nat))) (List.replicate (3 : Nat) (0 : Int))) (0 : Nat) (0 : Int)) (List.getD (acts.getD (Int.toNat (offs iv (0 : Nat))) (List.replicate (3 : Nat) (0 : Int))) (1 : Nat) (0 : Int)) (List.getD (acts.getD (Int.toNat (offs iv (0 : Nat))) (List.replicate (3 : Nat) (0 : Int))) (2 : Nat) (0 : Int))) y1).bind fun y6 => (bif (inR iv acts.length) then (bif (inR (offs iv 0) acts.length) then (bif (decide (List.getD (acts.getD (Int.toNat (offs iv (0 : Nat))) (List.replicate (3 : Nat) (0 : Int))) (0 : Nat) (0 : Int) ≥ (0 : Int))) then (bif (inR iv acts.length) then (bif (inR (offs iv 0) acts.length) then (bif (decide (List.getD (acts.getD (Int.toNat (offs iv (0 : Nat))) (List.replicate (3 : Nat) (0 : Int))) (0 : Nat) (0 : Int) < (2 : Int))) then (bif (y6.2.1 == 1) then (bif (decide (w.length + 1 ≤ 1048576)) then some (.inl ((IntKind.i64.wrap (iv + 1)), y6.2.2.2.2, (w ++ [y6.1]))) else none) else (bif (inR iv acts.length) then (bif (inR (offs iv 0) acts.length) then (bif (decide (List.getD (acts.getD (Int.toNat (offs iv (0 : Nat))) (List.replicate (3 : Nat) (0 : Int))) (0 : Nat) (0 : Int) ≥ (2 : Int))) then (bif (inR iv acts.length) then (bif (inR (offs iv 0) acts.length) then (bif (decide (List.getD (acts.getD (Int.toNat (offs iv (0 : Nat))) (List.replicate (3 : Nat) (0 : Int))) (0 : Nat) (0 : Int) < (4 : Int))) then (bif (y6.1 == 1) then ((y0c y1 w).bind fun y7 => some (.inl ((IntKind.i64.wrap (iv + 1)), y6.2.2.2.2, y7))) else some (.inl ((IntKind.i64.wrap (iv + 1)), y6.2.2.2.2, w))) else some (.inl ((IntKind.i64.wrap (iv + 1)), y6.2.2.2.2, w))) else none) else none) else some (.inl ((IntKind.i64.wrap (iv + 1)), y6.2.2.2.2, w))) else none) else none)) else (bif (inR iv acts.length) then (bif (inR (offs iv 0) acts.length) then (bif (decide (List.getD (acts.getD (Int.toNat (offs iv (0 : Nat))) (List.replicate (3 : Nat) (0 : Int))) (0 : Nat) (0 : Int) ≥ (2 : Int))) then (bif (inR iv acts.length) then (bif (inR (offs iv 0) acts.length) then (bif (decide (List.getD (acts.getD (Int.toNat (offs iv (0 : Nat))) (List.replicate (3 : Nat) (0 : Int))) (0 : Nat) (0 : Int) < (4 : Int))) then (bif (y6.1 == 1) then ((y0c y1 w).bind fun y8 => some (.inl ((IntKind.i64.wrap (iv + 1)), y6.2.2.2.2, y8))) else some (.inl ((IntKind.i64.wrap (iv + 1)), y6.2.2.2.2, w))) else some (.inl ((IntKind.i64.wrap (iv + 1)), y6.2.2.2.2, w))) else none) else none) else some (.inl ((IntKind.i64.wrap (iv + 1)), y6.2.2.2.2, w))) else none) else none)) else none) else none) else (bif (inR iv acts.length) then (bif (inR (offs iv 0) acts.length) then (bif (decide (List.getD (acts.getD (Int.toNat (offs iv (0 : Nat))) (List.replicate (3 : Nat) (0 : Int))) (0 : Nat) (0 : Int) ≥ (2 : Int))) then (bif (inR iv acts.length) then (bif (inR (offs iv 0) acts.length) then (bif (decide (List.getD (acts.getD (Int.toNat (offs iv (0 : Nat))) (List.replicate (3 : Nat) (0 : Int))) (0 : Nat) (0 : Int) < (4 : Int))) then (bif (y6.1 == 1) then ((y0c y1 w).bind fun y9 => some (.inl ((IntKind.i64.wrap (iv + 1)), y6.2.2.2.2, y9))) else some (.inl ((IntKind.i64.wrap (iv + 1)), y6.2.2.2.2, w))) else some (.inl ((IntKind.i64.wrap (iv + 1)), y6.2.2.2.2, w))) else none) else none) else some (.inl ((IntKind.i64.wrap (iv + 1)), y6.2.2.2.2, w))) else none) else none)) else none) else none)) else none) else none))) else none) else none) else some (.inr (cur2, w)))
def yc2 (nw : Nat) (l2 : ya) (acts : List (List Int)) (s : Int × (List Int) × (List Int)) : Option ((List Int) × (List Int)) :=
  loopO (fun s => y4g nw l2 acts s.1 s.2.1 s.2.2) s
def y1z (nw : Nat) (cur : List Int) (l2 : ya) (acts : List (List Int)) : Option ((List Int) × (List Int)) :=
  (yc2 nw l2 acts (0, cur, ([])))
attribute [local irreducible] Loop ex exF contK roundK retK at_ bodyOf mkEnv exFN
theorem yem : SpecOK Tryz.prog elTT 28 (y7t y0n) := by
  refine spec_of_exF (cfg := (yc1 yx y01 y09)) (yg rfl rfl rfl) (yd y7s (yd y8v (yd ydu yk))) (fn := Tryz.f28) (by kernel_rfl) (by kernel_rfl) (by kernel_rfl) ?_
  intro args H K h
  change y7v y0n args H K at h
  unfold y7v at h
  repeat first | (obtain ⟨_, h⟩ := h) | replace h := Des.el h
  subst_vars
  refine Eq.mpr (yjn yx y01 y09 _ _ _ _ _ _ _ _ _ K) ?_
  unfold y0n at h
  revert h
  exact andV (by assumption) (bind_So fun y0 => andV (by assumption) (bind_So fun y1 => br_So (andV (by assumption) (bind_So fun y2 => fun h => h)) (andV (by assumption) (bind_So fun y3 => br_So (andV (by assumption) (bind_So fun y4 => br_So (andV (by assumption) (bind_So fun y5 => fun h => h)) (fun h => h))) (fun h => h)))))
theorem lpok_law11_lives_1_L1 (ws cur : List Int) (xs : List Value) (l2 : ya) (a_0 a_1 : Int) (a_2 a_3 : Int) (U U2 : TypeId) (iv : Int) (cur2 : List Int) (c c2 : Int) (c3 c4 : Int) (K : V → Heap → Prop) (hx : xs.length ≤ 2) : So (ydb ws.length l2 (iv, cur2, c, c2, c3, c4)) (fun (x : (List Int) × Int × Int × Int × Int) => K (.tup []) [.pk 0 [ws, x.1] xs [.row 3], .cells U (yc l2), .cells U2 [vi x.2.1, vi x.2.2.1, vi x.2.2.2.1, vi x.2.2.2.2], .row 0 ws true]) → Loop (y2w y01 yx) (⟨21, 4⟩ : Cx) (at_ (bodyOf Tryz.f35) [0, 1, 0, 0]) (mkEnv [(0, .ptr 0 0), (1, .ptr 1 0), (2, .ptr 2 0), (4, vi iv)]) [.pk 0 [ws, cur2] xs [.row 3], .cells U (yc l2), .cells U2 [vi c, vi c2, vi c3, vi c4], .row 0 ws true] (contK (y2w y01 yx) (⟨21, 4⟩ : Cx) (bodyOf Tryz.f35) [0, 1, 0] (retK (y2w y01 yx) Tryz.f35 4 K)) := by
  refine loopK_So (fun (s_ : Int × (List Int) × Int × Int × Int × Int) => (mkEnv [(0, .ptr 0 0), (1, .ptr 1 0), (2, .ptr 2 0), (4, vi s_.1)])) (fun (s_ : Int × (List Int) × Int × Int × Int × Int) => [.pk 0 [ws, s_.2.1] xs [.row 3], .cells U (yc l2), .cells U2 [vi s_.2.2.1, vi s_.2.2.2.1, vi s_.2.2.2.2.1, vi s_.2.2.2.2.2], .row 0 ws true]) (fun (x : (List Int) × Int × Int × Int × Int) => K (.tup []) [.pk 0 [ws, x.1] xs [.row 3], .cells U (yc l2), .cells U2 [vi x.2.1, vi x.2.2.1, vi x.2.2.2.1, vi x.2.2.2.2], .row 0 ws true]) ?_ (iv, cur2, c, c2, c3, c4)
  intro s_ J1 h
  clear iv
  clear cur2
  clear c
  clear c2
  clear c3
  clear c4
  obtain ⟨iv, cur2, c, c2, c3, c4⟩ := s_
  refine Eq.mpr (yjp y01 yx ws cur xs l2 a_0 a_1 a_2 a_3 U U2 iv cur2 c c2 c3 c4 K J1) ?_
  have h : So (y3b ws.length l2 iv cur2 c c2 c3 c4) _ := h
  unfold y3b at h
  revert h
  exact br_So (andV hx (bind_So fun y0 => req_So (br_So (fun h => h) (br_So (fun h => h) (br_So (fun h => h) (br_So (fun h => h) (fun _ => trivial))))))) (andV hx (bind_So fun y1 => fun h => h))
theorem yh5 : SpecOK Tryz.prog elTT 35 (y9b y2p) := by
  refine spec_of_exF (cfg := (y2w y01 yx)) (yg rfl rfl rfl) (yd y8v (yd y7s yk)) (fn := Tryz.f35) (by kernel_rfl) (by kernel_rfl) (by kernel_rfl) ?_
  intro args H K h
  change y7l y2p args H K at h
  unfold y7l at h
  repeat first | (obtain ⟨_, h⟩ := h) | replace h := Des.el h
  subst_vars
  refine Eq.mpr (yg9 y01 yx _ _ _ _ _ _ _ _ _ _ K) ?_
  unfold y2p at h
  revert h
  exact lpok_law11_lives_1_L1 _ (by first | assumption | exact default) _ _ (by first | assumption | exact default) (by first | assumption | exact default) (by first | assumption | exact default) (by first | assumption | exact default) _ _ _ _ _ _ _ _ K (by assumption)
theorem lpok_law11_after_1_L1 (ws cur : List Int) (xs : List Value) (l2 : ya) (acts : List (List Int)) (U U2 U3 : TypeId) (iv : Int) (cur2 w : List Int) (K : V → Heap → Prop) (hx : xs.length ≤ 2) : So (yc2 ws.length l2 acts (iv, cur2, w)) (fun (x : (List Int) × (List Int)) => K (.tup []) [.pk 0 [ws, x.1] xs [.row 4], .cells U [.row 6], .cells U2 [.row 5], .cells U3 (yc l2), .row 0 ws true, .row 6 acts true, .row 0 x.2 false]) → Loop (y2x y0a y0m y0j y0c) (⟨76, 6⟩ : Cx) (at_ (bodyOf Tryz.f48) [1, 1, 0, 0]) (mkEnv [(0, .ptr 0 0), (1, .ptr 1 0), (2, .ptr 2 0), (3, .ptr 3 0), (5, vi iv)]) [.pk 0 [ws, cur2] xs [.row 4], .cells U [.row 6], .cells U2 [.row 5], .cells U3 (yc l2), .row 0 ws true, .row 6 acts true, .row 0 w false] (contK (y2x y0a y0m y0j y0c) (⟨76, 6⟩ : Cx) (bodyOf Tryz.f48) [1, 1, 0] (retK (y2x y0a y0m y0j y0c) Tryz.f48 6 K)) := by
  refine loopK_So (fun (s_ : Int × (List Int) × (List Int)) => (mkEnv [(0, .ptr 0 0), (1, .ptr 1 0), (2, .ptr 2 0), (3, .ptr 3 0), (5, vi s_.1)])) (fun (s_ : Int × (List Int) × (List Int)) => [.pk 0 [ws, s_.2.1] xs [.row 4], .cells U [.row 6], .cells U2 [.row 5], .cells U3 (yc l2), .row 0 ws true, .row 6 acts true, .row 0 (s_.2.2 : List Int) false]) (fun (x : (List Int) × (List Int)) => K (.tup []) [.pk 0 [ws, x.1] xs [.row 4], .cells U [.row 6], .cells U2 [.row 5], .cells U3 (yc l2), .row 0 ws true, .row 6 acts true, .row 0 x.2 false]) ?_ (iv, cur2, w)
  intro s_ J1 h
  clear iv
  clear cur2
  clear w
  obtain ⟨iv, cur2, w⟩ := s_
  refine Eq.mpr (yf5 y0a y0m y0j y0c ws cur xs l2 acts U U2 U3 iv cur2 w K J1) ?_
  have h : So (y4g ws.length l2 acts iv cur2 w) _ := h
  unfold y4g at h
  revert h
  exact br_So (req_So (req_So (bind_So fun y0 => bind_So fun y1 => req_So (req_So (alt_So (andV hx (bind_So fun y2 => req_So (req_So (br_So (req_So (req_So (br_So (br_So (req_So (fun h => h)) (req_So (req_So (br_So (req_So (req_So (br_So (br_So (bind_So fun y3 => fun h => h) (fun h => h)) (fun h => h)))) (fun h => h))))) (req_So (req_So (br_So (req_So (req_So (br_So (br_So (bind_So fun y4 => fun h => h) (fun h => h)) (fun h => h)))) (fun h => h))))))) (req_So (req_So (br_So (req_So (req_So (br_So (br_So (bind_So fun y5 => fun h => h) (fun h => h)) (fun h => h)))) (fun h => h)))))))) (andV hx (bind_So fun y6 => req_So (req_So (br_So (req_So (req_So (br_So (br_So (req_So (fun h => h)) (req_So (req_So (br_So (req_So (req_So (br_So (br_So (bind_So fun y7 => fun h => h) (fun h => h)) (fun h => h)))) (fun h => h))))) (req_So (req_So (br_So (req_So (req_So (br_So (br_So (bind_So fun y8 => fun h => h) (fun h => h)) (fun h => h)))) (fun h => h))))))) (req_So (req_So (br_So (req_So (req_So (br_So (br_So (bind_So fun y9 => fun h => h) (fun h => h)) (fun h => h)))) (fun h => h))))))))))))) (fun h => h)
theorem yiu : SpecOK Tryz.prog elTT 48 (y6e y1z) := by
  refine spec_of_exFN (cfg := (y2x y0a y0m y0j y0c)) (yg rfl rfl rfl) (yd ycz (yd yjk (yd yhb (yd yhu yk)))) (nx := [(1, 0)]) (fn := Tryz.f48) (by kernel_rfl) (by kernel_rfl) (by kernel_rfl) ?_
  intro args H K h
  change y84 y1z args H K at h
  unfold y84 at h
  repeat first | (obtain ⟨_, h⟩ := h) | replace h := Des.el h
  subst_vars
  refine Eq.mpr (yhs y0a y0m y0j y0c _ _ _ _ _ _ _ _ K) ?_
  unfold y1z at h
  revert h
  exact lpok_law11_after_1_L1 _ (by first | assumption | exact default) _ _ _ _ _ _ _ _ _ K (by assumption)
end Go.Rx
end

section
namespace Go.Rx
open Go.Proofs
theorem number_eq (b : Bool) : yp b = some (if b = true then 1 else 0) := by cases b <;> rfl
theorem acts3 {acts : List (List Int)} (n : Nat) (h : n < acts.length) : acts.getD n (List.replicate 3 0) = acts[n] := by simp [List.getD, h]
section
variable {c : yb} {w inn : List Int} {ls : Int → Int → List Int}
theorem same11 (h : RightC c) {nw : Nat} (v : VOK (layC c) nw w) (i : Inv11 (layC c) w inn ls) (a : yj) (at_ : Int) :
    ∃ r : Int × Int × Int × Int × List Int, y0j nw w (layC c) a at_ = some r ∧ ybq ⟨c⟩ a at_ w = some r ∧ r.2.2.2.2.length = w.length ∧ ∃ inn' ls', Inv11 (layC c) r.2.2.2.2 inn' ls' := by
  have hnw := v.len
  subst hnw
  have hn : (layC c).at_11 ≤ (w.length : Int) := v.all
  have grab : ∃ r : Int × Int × Int × Int × List Int, ((y01 w.length w (layC c) a.C).bind fun y0 => ((yp (Prod.fst (Prod.snd y0))).bind fun y1 => some (((Prod.fst y0), (y1), (0), (0), (Prod.snd (Prod.snd y0)))))) = some r ∧
      ((y3o ⟨c⟩ a.C w).bind fun y0 => ((yp (Prod.fst (Prod.snd y0))).bind fun y1 => some (((Prod.fst y0), (y1), (0), (0), (Prod.snd (Prod.snd y0)))))) = some r ∧ r.2.2.2.2.length = w.length ∧ ∃ inn' ls', Inv11 (layC c) r.2.2.2.2 inn' ls' := by
    obtain ⟨x, b, u, e1, s1⟩ := pGrab_eq v i a.C
    obtain ⟨x', b', u', e2, s2⟩ := rGrab_eq h v i a.C
    obtain ⟨rfl, rfl, rfl⟩ := s1.uniq s2
    have hi := s1.inv v.lay hn i
    rw [e1, e2, Option.bind_some, number_eq]
    exact ⟨_, rfl, rfl, hi⟩
  have ret : ∃ r : Int × Int × Int × Int × List Int, ((y09 w.length w (layC c) at_).bind fun y2 => ((yp (Prod.fst y2)).bind fun y3 => some (((y3), (0), (0), (0), (Prod.snd y2))))) = some r ∧
      ((y3w ⟨c⟩ at_ w).bind fun y2 => ((yp (Prod.fst y2)).bind fun y3 => some (((y3), (0), (0), (0), (Prod.snd y2))))) = some r ∧ r.2.2.2.2.length = w.length ∧ ∃ inn' ls', Inv11 (layC c) r.2.2.2.2 inn' ls' := by
    obtain ⟨b, u, e1, s1⟩ := pReturn_eq v i at_
    obtain ⟨b', u', e2, s2⟩ := rReturn_eq h v i at_
    obtain ⟨rfl, rfl⟩ := s1.uniq s2
    have hi := s1.inv v.lay hn i
    rw [e1, e2, Option.bind_some, number_eq]
    exact ⟨_, rfl, rfl, hi⟩
  have look : ∃ r : Int × Int × Int × Int × List Int, ((y0u w.length w (layC c) at_).bind fun y4 => ((yp (Prod.snd y4)).bind fun y5 => ((y1h w.length w (layC c) a.C).bind fun y6 => ((yp y6).bind fun y7 => ((yx w.length w (layC c) a.C).bind fun y8 => some (((Prod.fst y4), (y5), (y7), (y8), (w)))))))) = some r ∧
      ((y3d ⟨c⟩ at_ w).bind fun y4 => ((yp (Prod.snd y4)).bind fun y5 => ((y3p ⟨c⟩ a.C w).bind fun y6 => ((yp y6).bind fun y7 => ((y4b ⟨c⟩ a.C w).bind fun y8 => some (((Prod.fst y4), (y5), (y7), (y8), (w)))))))) = some r ∧ r.2.2.2.2.length = w.length ∧ ∃ inn' ls', Inv11 (layC c) r.2.2.2.2 inn' ls' := by
    have e : y0u w.length w (layC c) at_ = y3d ⟨c⟩ at_ w := by
      rcases pTaken_eq v i at_ with ⟨p, q, m, j, t, e1⟩ | ⟨n1, e1⟩ <;> rcases rTaken_eq h v i at_ with ⟨p', q', m', j', t', _, e2⟩ | ⟨n2, e2⟩
      · have e3 : p = p' := t.page.trans t'.page.symm
        subst e3
        have e4 : q = q' := by have := t.kind; have := t'.kind; omega
        rw [e1, e2, e4]
      · exact (n2 _ _ _ _ t).elim
      · exact (n1 _ _ _ _ t').elim
      · rw [e1, e2]
    rw [e, pRoom_eq v i, pFree_eq v i, rRoom_eq h v i, rFree_eq h v i]
    have e0 : (layC c).c = c := rfl
    rw [e0]
    rcases rTaken_eq h v i at_ with ⟨p', q', m', j', t', _, e2⟩ | ⟨n2, e2⟩ <;> rw [e2] <;> simp only [Option.bind_some, number_eq] <;> exact ⟨_, rfl, rfl, rfl, _, _, i⟩
  unfold y0j ybq
  by_cases k0 : a.Kind = 0
  · rw [beq_iff_eq.2 k0]; simp only [cond_true]; exact grab
  rw [beq_eq_false_iff_ne.2 k0, cond_false, cond_false]
  by_cases k1 : a.Kind = 1
  · rw [beq_iff_eq.2 k1]; simp only [cond_true]; exact grab
  rw [beq_eq_false_iff_ne.2 k1, cond_false, cond_false]
  by_cases k2 : a.Kind = 2
  · rw [beq_iff_eq.2 k2]; simp only [cond_true]; exact ret
  rw [beq_eq_false_iff_ne.2 k2, cond_false, cond_false]
  by_cases k3 : a.Kind = 3
  · rw [beq_iff_eq.2 k3]; simp only [cond_true]; exact ret
  rw [beq_eq_false_iff_ne.2 k3]; simp only [cond_false]; exact look
end
theorem bat_eq (user : Int) (a : yj) {b : List Int} (hb : b.length ≤ 1048576) : ∃ x, y0m user a b = some x := by
  unfold y0m
  by_cases k : a.Kind = 2
  · rw [beq_iff_eq.2 k, cond_true]
    by_cases l : (b.length : Int) > 0
    · rw [decide_eq_true l, cond_true]
      have e1 : IntKind.wrap IntKind.u64 (b.length : Int) = (b.length : Int) := by rw [wrap_u64]; omega
      have e2 : 0 ≤ IntKind.wrap IntKind.u64 a.N := by rw [wrap_u64]; omega
      rw [e1]
      have e3 : (!((b.length : Int) == 0)) = true := by rw [beq_eq_false_iff_ne.2 (by omega)]; rfl
      rw [e3, cond_true, Int.tmod_eq_emod_of_nonneg e2]
      have h1 := Int.emod_nonneg (IntKind.wrap IntKind.u64 a.N) (b := (b.length : Int)) (by omega)
      have h2 := Int.emod_lt_of_pos (IntKind.wrap IntKind.u64 a.N) (b := (b.length : Int)) (by omega)
      generalize IntKind.wrap IntKind.u64 a.N % (b.length : Int) = r at *
      rw [wrap_id (by omega) (by omega), inR_int h1 h2, cond_true, offs_id h1, inR_int h1 h2, cond_true]
      exact ⟨_, rfl⟩
    · rw [decide_eq_false l, cond_false]; exact ⟨_, rfl⟩
  · rw [beq_eq_false_iff_ne.2 k, cond_false]; exact ⟨_, rfl⟩
theorem without_eq (a : Int) {b : List Int} (hb : b.length ≤ 1048576) : ∃ x, y0c a b = some x ∧ x.length ≤ b.length :=
  loopO_ind (step := fun s : Int × List Int => y52 a b s.1 s.2)
    (I := fun s => ∃ j : Nat, j ≤ b.length ∧ s.1 = j ∧ s.2.length ≤ j) (μ := fun s => b.length - s.1.toNat) (fun r => r.length ≤ b.length) (by
      rintro ⟨_, u⟩ ⟨j, hj, rfl, hu⟩
      simp only at hu ⊢
      simp only [y52]
      by_cases cc : j < b.length
      · have ho : offs (j : Int) 0 = (j : Int) := rfl
        rw [decide_eq_true (show (j : Int) < (b.length : Int) by omega), cond_true, inR_nat cc, cond_true, ho, inR_nat cc, cond_true, wrap_succ (by omega)]
        cases (b.getD (j : Int).toNat 0 != a) with
        | true =>
          rw [cond_true, cond_true, cond_true, decide_eq_true (by omega), cond_true]
          exact .inl ⟨_, rfl, ⟨j + 1, cc, rfl, by simp; omega⟩, by simp only; omega⟩
        | false =>
          rw [cond_false]
          exact .inl ⟨_, rfl, ⟨j + 1, cc, rfl, by simp only; omega⟩, by simp only; omega⟩
      · rw [decide_eq_false (by omega), cond_false]
        exact .inr ⟨_, rfl, by omega⟩) (0, []) ⟨0, by omega, rfl, by simp⟩
theorem after111_eq {c : yb} (h : RightC c) {nw : Nat} {w inn : List Int} {ls : Int → Int → List Int} (v : VOK (layC c) nw w) (i : Inv11 (layC c) w inn ls) {acts : List (List Int)} (hl : acts.length ≤ 1000) :
    ∃ u b, y1z nw w (layC c) acts = some (u, b) ∧ VOK (layC c) nw u ∧ ∃ inn' ls', Inv11 (layC c) u inn' ls' := by
  unfold y1z
  obtain ⟨r, h1, h2⟩ := loopO_ind (step := fun s : Int × List Int × List Int => y4g nw (layC c) acts s.1 s.2.1 s.2.2)
    (I := fun s => ∃ j : Nat, j ≤ acts.length ∧ s.1 = j ∧ VOK (layC c) nw s.2.1 ∧ s.2.2.length ≤ j ∧ ∃ inn' ls', Inv11 (layC c) s.2.1 inn' ls') (μ := fun s => acts.length - s.1.toNat)
    (fun r => VOK (layC c) nw r.1 ∧ ∃ inn' ls', Inv11 (layC c) r.1 inn' ls') (by
      rintro ⟨_, u, b⟩ ⟨j, hj, rfl, vu, hb, inn', ls', iu⟩
      simp only at vu hb iu ⊢
      simp only [y4g]
      by_cases cc : j < acts.length
      · have ho : offs (j : Int) 0 = (j : Int) := rfl
        simp only [ho, inR_nat cc, cond_true, Int.toNat_natCast, acts3 j cc, User_eq, Option.bind_some]
        rw [decide_eq_true (show (j : Int) < (acts.length : Int) by omega), cond_true]
        obtain ⟨x, e1⟩ := bat_eq (layC c).at_10 ⟨acts[j].getD 0 0, acts[j].getD 1 0, acts[j].getD 2 0⟩ (b := b) (by omega)
        obtain ⟨⟨r0, r1, r2, r3, u'⟩, d1, _, d3, inn2, ls2, d4⟩ := same11 h vu iu ⟨acts[j].getD 0 0, acts[j].getD 1 0, acts[j].getD 2 0⟩ x
        simp only at d3 d4
        have vu' : VOK (layC c) nw u' := ⟨vu.lay, by rw [d3]; exact vu.len, vu.all⟩
        obtain ⟨y, e2, e3⟩ := without_eq x (b := b) (by omega)
        have ea : decide (b.length + 1 ≤ 1048576) = true := decide_eq_true (by omega)
        rw [e1, Option.bind_some, d1, Option.bind_some, wrap_succ (by omega)]
        simp only [ea, e2, Option.bind_some, cond_true]
        have push : ∃ j' : Nat, j' ≤ acts.length ∧ ((j + 1 : Nat) : Int) = j' ∧ VOK (layC c) nw u' ∧ (b ++ [r0]).length ≤ j' ∧ ∃ inn' ls', Inv11 (layC c) u' inn' ls' := ⟨j + 1, cc, rfl, vu', by simp; omega, _, _, d4⟩
        have cut : ∃ j' : Nat, j' ≤ acts.length ∧ ((j + 1 : Nat) : Int) = j' ∧ VOK (layC c) nw u' ∧ y.length ≤ j' ∧ ∃ inn' ls', Inv11 (layC c) u' inn' ls' := ⟨j + 1, cc, rfl, vu', by omega, _, _, d4⟩
        have stay : ∃ j' : Nat, j' ≤ acts.length ∧ ((j + 1 : Nat) : Int) = j' ∧ VOK (layC c) nw u' ∧ b.length ≤ j' ∧ ∃ inn' ls', Inv11 (layC c) u' inn' ls' := ⟨j + 1, cc, rfl, vu', by omega, _, _, d4⟩
        have mu : acts.length - ((j + 1 : Nat) : Int).toNat < acts.length - (j : Int).toNat := by omega
        generalize decide (acts[j].getD 0 0 ≥ 0) = t1
        generalize decide (acts[j].getD 0 0 < 2) = t2
        generalize decide (acts[j].getD 0 0 ≥ 2) = t3
        generalize decide (acts[j].getD 0 0 < 4) = t4
        generalize (r1 == 1) = t5
        generalize (r0 == 1) = t6
        cases t1 <;> cases t2 <;> cases t3 <;> cases t4 <;> cases t5 <;> cases t6 <;> simp only [cond_true, cond_false] <;> first | exact .inl ⟨_, rfl, push, mu⟩ | exact .inl ⟨_, rfl, cut, mu⟩ | exact .inl ⟨_, rfl, stay, mu⟩
      · rw [decide_eq_false (by omega), cond_false]
        exact .inr ⟨_, rfl, vu, _, _, iu⟩) (0, w, []) ⟨0, by omega, rfl, v, by simp, _, _, i⟩
  exact ⟨r.1, r.2, h1, h2.1, h2.2⟩
end Go.Rx
end

noncomputable section
namespace Go.Rx
open Go.Proofs
set_option maxRecDepth 100000
set_option maxHeartbeats 4000000
def y66 (m_ : Y9) (args : List V) (H : Heap) (K : V → Heap → Prop) : Prop :=
  aC args fun a0 r => aC r fun a1 r => aN r <| aRow 0 a0 <| aFn 28 a1 fun cs => aC cs fun p0 r => aC r fun p1 r => aC r fun p2 r => aN r <| aPtr 1 p0 <| aPtr 2 p1 <| aPtr 3 p2 <| aC H fun b4 r => aC r fun b1 r => aC r fun b2 r => aC r fun b3 r => aN r <| bRow 0 true b4 fun (ws : List Int) => bCells b1 fun U c1 => yq c1 fun l2 => bCells b2 fun U2 c2 => aC c2 fun d2_0 r => aInt d2_0 fun q => aN r <| bCells b3 fun U3 c3 => aC c3 fun d3_0 r => aBool d3_0 fun right => aN r <| Req (Nat.ble ws.length 1048576) (So (m_ ws.length ws l2 q right) fun x => ∀ nd : List Pr, K (.tup [.row 4, .row 5, vi 0]) [.row 0 ws true, .cells U (yc l2), .cells U2 [vi q], .cells U3 [vb x.2], .row 0 x.1 false, .row 2 nd false])
def ydr (m_ : Y9) : Spec := ⟨y66 m_, (true : Bool)⟩
def cfgDo_law11_PagesBack_1 (m_ : Y9) : Cfg := cfgDo 28 (y7t m_) [(0, none), (7, none), (10, none), (31, none), (32, none), (33, none)]
def y7h (m_ : Y5) (args : List V) (H : Heap) (K : V → Heap → Prop) : Prop :=
  aC args fun a0 r => aC r fun a1 r => aN r <| aRow 0 a0 <| aFn 35 a1 fun cs => aC cs fun p0 r => aC r fun p1 r => aN r <| aPtr 1 p0 <| aPtr 2 p1 <| aC H fun b3 r => aC r fun b1 r => aC r fun b2 r => aN r <| bRow 0 true b3 fun (ws : List Int) => bCells b1 fun U c1 => yq c1 fun l2 => bCells b2 fun U2 c2 => aC c2 fun d2_0 r => aInt d2_0 fun a_0 => aC r fun d2_1 r => aInt d2_1 fun a_1 => aC r fun d2_2 r => aInt d2_2 fun a_2 => aC r fun d2_3 r => aInt d2_3 fun a_3 => aN r <| Req (Nat.ble ws.length 1048576) (So (m_ ws.length ws l2 a_0 a_1 a_2 a_3) fun x => ∀ nd : List Pr, K (.tup [.row 3, .row 4, vi 0]) [.row 0 ws true, .cells U (yc l2), .cells U2 [vi x.2.1, vi x.2.2.1, vi x.2.2.2.1, vi x.2.2.2.2], .row 0 x.1 false, .row 2 nd false])
def yee (m_ : Y5) : Spec := ⟨y7h m_, (true : Bool)⟩
def cfgDo_law11_lives_1 (m_ : Y5) : Cfg := cfgDo 35 (y9b m_) [(0, none), (7, none), (10, none), (31, none), (32, none), (33, none)]
def y7x (m_ : Nat → (List Int) → ya → (List (List Int)) → Option ((List Int) × (List Int))) (args : List V) (H : Heap) (K : V → Heap → Prop) : Prop :=
  aC args fun a0 r => aC r fun a1 r => aN r <| aRow 0 a0 <| aFn 48 a1 fun cs => aC cs fun p0 r => aC r fun p1 r => aC r fun p2 r => aN r <| aPtr 1 p0 <| aPtr 2 p1 <| aPtr 3 p2 <| aC H fun b4 r => aC r fun b1 r => aC r fun b2 r => aC r fun b3 r => aC r fun b5 r => aN r <| bRow 0 true b4 fun (ws : List Int) => bCells b1 fun U c1 => aC c1 fun d1_0 r => aNilS d1_0 <| aN r <| bCells b2 fun U2 c2 => aC c2 fun d2_0 r => aRow 4 d2_0 <| aN r <| bCells b3 fun U3 c3 => yq c3 fun l2 => bRow 6 true b5 fun (acts : List (List Int)) => Req (Nat.ble ws.length 1048576) (So (m_ ws.length ws l2 acts) fun x => ∀ nd : List Pr, K (.tup [.row 5, .row 6, vi 0]) [.row 0 ws true, .cells U [.row 7], .cells U2 [.row 4], .cells U3 (yc l2), .row 6 acts true, .row 0 x.1 false, .row 2 nd false, .row 0 x.2 false])
def yb7 (m_ : Nat → (List Int) → ya → (List (List Int)) → Option ((List Int) × (List Int))) : Spec := ⟨y7x m_, (true : Bool)⟩
def cfgDo_law11_after_1 (m_ : Nat → (List Int) → ya → (List (List Int)) → Option ((List Int) × (List Int))) : Cfg := cfgDo 48 (y6e m_) [(0, none), (7, none), (10, none), (31, none), (32, none), (33, none)]
theorem yhw (m_ : Y9) (ws : List Int) (l2 : ya) (q : Int) (right : Bool) (U U2 U3 : TypeId) (K : V → Heap → Prop) : (exF (cfgDo_law11_PagesBack_1 m_) Tryz.f10 [.row 0, .fn 28 [.ptr 1 0, .ptr 2 0, .ptr 3 0]] [.row 0 ws true, .cells U (yc l2), .cells U2 [vi q], .cells U3 [vb right]] K) = (
    Req (decide (ws.length ≤ 1048576)) (∀ (y0 : Go.Value), ((ws = ws) ∧ ((1 ≤ 2) ∧ (So (m_ ws.length ws l2 q right) (fun (y1 : List Int × Bool) => ((y0 = y0) ∧ (∀ (y2 : Int → Option Int), (∀ (y3 : Nat), (∀ (y4 : List Pr), (∀ (y5 : List (List Int)), ((ViewOK ws y1.1 y2 y4 y5) → (Req (Nat.ble y5.length 1048576) (Req (decide (0 + ws.length ≤ 1048576)) (Loop (cfgDo_law11_PagesBack_1 m_) (⟨54, 4⟩ : Cx) (at_ (bodyOf Tryz.f10) [1, 1, 1, 1, 1, 1, 0, 1, 0, 0]) (mkEnv [(0, .row 0), (7, .ptr 4 0), (10, .row 5), (31, .row 6), (32, vi (↑(List.length (List.map prOf y5)) : Int)), (33, vi 0)]) [.row 0 ws true, .cells U (yc l2), .cells U2 [vi q], .cells U3 [vb y1.2], .cells 0 [.row 0, .mp 7, .row 8], .row 0 ws false, .row 2 (List.map prOf y5 : List Pr) false, .map y2 y3, .row 2 y4 false] (contK (cfgDo_law11_PagesBack_1 m_) (⟨54, 4⟩ : Cx) (bodyOf Tryz.f10) [1, 1, 1, 1, 1, 1, 0, 1, 0] (retK (cfgDo_law11_PagesBack_1 m_) Tryz.f10 4 K))))))))))))))))) := by kernel_rfl
theorem yeq (m_ : Y9) (ws : List Int) (l2 : ya) (q : Int) (right : Bool) (U U2 U3 : TypeId) (x : (List Int) × Bool) (now_ : List Int) (ps_ nd_ : List Pr) (mm_ : Int → Option Int) (mn_ : Nat) (len_ j_ : Int) (K : V → Heap → Prop) (J1 : Env → Heap → Prop) : (ex (cfgDo_law11_PagesBack_1 m_) (⟨54, 4⟩ : Cx) (at_ (bodyOf Tryz.f10) [1, 1, 1, 1, 1, 1, 0, 1, 0, 0]) (mkEnv [(0, .row 0), (7, .ptr 4 0), (10, .row 5), (31, .row 6), (32, vi len_), (33, vi j_)]) [.row 0 ws true, .cells U (yc l2), .cells U2 [vi q], .cells U3 [vb x.2], .cells 0 [.row 0, .mp 7, .row 8], .row 0 now_ false, .row 2 ps_ false, .map mm_ mn_, .row 2 nd_ false] (roundK (cfgDo_law11_PagesBack_1 m_) (⟨54, 4⟩ : Cx) (at_ (bodyOf Tryz.f10) [1, 1, 1, 1, 1, 1, 0, 1, 0, 0]) (contK (cfgDo_law11_PagesBack_1 m_) (⟨54, 4⟩ : Cx) (bodyOf Tryz.f10) [1, 1, 1, 1, 1, 1, 0, 1, 0] (retK (cfgDo_law11_PagesBack_1 m_) Tryz.f10 4 K)) J1)) = (
    br (decide (j_ < len_)) (Req (inR j_ ps_.length) (Req (inR (offs j_ 0) ps_.length) (br (decide (Pr.Addr (ps_.getD (offs j_ 0).toNat (Pr.mk 0 0)) ≥ (↑ws.length : Int))) (K (.tup [.row 4, .row 5, vi 3]) [.row 0 ws true, .cells U (yc l2), .cells U2 [vi q], .cells U3 [vb x.2], .row 0 ([] : List Int) false, .row 2 ([] : List Pr) false]) (Req (inR (Pr.Addr (ps_.getD (offs j_ 0).toNat (Pr.mk 0 0))) now_.length) (Req (inR (offs (Pr.Addr (ps_.getD (offs j_ 0).toNat (Pr.mk 0 0))) 0) now_.length) (J1 (mkEnv [(0, .row 0), (7, .ptr 4 0), (10, .row 5), (31, .row 6), (32, vi len_), (33, vi (IntKind.i64.wrap (j_ + 1)))]) [.row 0 ws true, .cells U (yc l2), .cells U2 [vi q], .cells U3 [vb x.2], .cells 0 [.row 0, .mp 7, .row 8], .row 0 (List.set now_ (Int.toNat (offs (Pr.Addr (ps_.getD (offs j_ 0).toNat (Pr.mk 0 0))) 0)) (Pr.Val (ps_.getD (offs j_ 0).toNat (Pr.mk 0 0))) : List Int) false, .row 2 ps_ false, .map mm_ mn_, .row 2 nd_ false])))))) (K (.tup [.row 4, .row 5, vi 0]) [.row 0 ws true, .cells U (yc l2), .cells U2 [vi q], .cells U3 [vb x.2], .row 0 now_ false, .row 2 nd_ false])) := by kernel_rfl
theorem ygo (m_ : Y5) (ws : List Int) (l2 : ya) (a_0 a_1 : Int) (a_2 a_3 : Int) (U U2 : TypeId) (K : V → Heap → Prop) : (exF (cfgDo_law11_lives_1 m_) Tryz.f10 [.row 0, .fn 35 [.ptr 1 0, .ptr 2 0]] [.row 0 ws true, .cells U (yc l2), .cells U2 [vi a_0, vi a_1, vi a_2, vi a_3]] K) = (
    Req (decide (ws.length ≤ 1048576)) (∀ (y0 : Go.Value), ((ws = ws) ∧ ((1 ≤ 2) ∧ (So (m_ ws.length ws l2 a_0 a_1 a_2 a_3) (fun (y1 : List Int × Int × Int × Int × Int) => ((y0 = y0) ∧ (∀ (y2 : Int → Option Int), (∀ (y3 : Nat), (∀ (y4 : List Pr), (∀ (y5 : List (List Int)), ((ViewOK ws y1.1 y2 y4 y5) → (Req (Nat.ble y5.length 1048576) (Req (decide (0 + ws.length ≤ 1048576)) (Loop (cfgDo_law11_lives_1 m_) (⟨54, 3⟩ : Cx) (at_ (bodyOf Tryz.f10) [1, 1, 1, 1, 1, 1, 0, 1, 0, 0]) (mkEnv [(0, .row 0), (7, .ptr 3 0), (10, .row 4), (31, .row 5), (32, vi (↑(List.length (List.map prOf y5)) : Int)), (33, vi 0)]) [.row 0 ws true, .cells U (yc l2), .cells U2 [vi y1.2.1, vi y1.2.2.1, vi y1.2.2.2.1, vi y1.2.2.2.2], .cells 0 [.row 0, .mp 6, .row 7], .row 0 ws false, .row 2 (List.map prOf y5 : List Pr) false, .map y2 y3, .row 2 y4 false] (contK (cfgDo_law11_lives_1 m_) (⟨54, 3⟩ : Cx) (bodyOf Tryz.f10) [1, 1, 1, 1, 1, 1, 0, 1, 0] (retK (cfgDo_law11_lives_1 m_) Tryz.f10 3 K))))))))))))))))) := by kernel_rfl
theorem yi5 (m_ : Y5) (ws : List Int) (l2 : ya) (a_0 a_1 : Int) (a_2 a_3 : Int) (U U2 : TypeId) (x : (List Int) × Int × Int × Int × Int) (now_ : List Int) (ps_ nd_ : List Pr) (mm_ : Int → Option Int) (mn_ : Nat) (len_ j_ : Int) (K : V → Heap → Prop) (J1 : Env → Heap → Prop) : (ex (cfgDo_law11_lives_1 m_) (⟨54, 3⟩ : Cx) (at_ (bodyOf Tryz.f10) [1, 1, 1, 1, 1, 1, 0, 1, 0, 0]) (mkEnv [(0, .row 0), (7, .ptr 3 0), (10, .row 4), (31, .row 5), (32, vi len_), (33, vi j_)]) [.row 0 ws true, .cells U (yc l2), .cells U2 [vi x.2.1, vi x.2.2.1, vi x.2.2.2.1, vi x.2.2.2.2], .cells 0 [.row 0, .mp 6, .row 7], .row 0 now_ false, .row 2 ps_ false, .map mm_ mn_, .row 2 nd_ false] (roundK (cfgDo_law11_lives_1 m_) (⟨54, 3⟩ : Cx) (at_ (bodyOf Tryz.f10) [1, 1, 1, 1, 1, 1, 0, 1, 0, 0]) (contK (cfgDo_law11_lives_1 m_) (⟨54, 3⟩ : Cx) (bodyOf Tryz.f10) [1, 1, 1, 1, 1, 1, 0, 1, 0] (retK (cfgDo_law11_lives_1 m_) Tryz.f10 3 K)) J1)) = (
    br (decide (j_ < len_)) (Req (inR j_ ps_.length) (Req (inR (offs j_ 0) ps_.length) (br (decide (Pr.Addr (ps_.getD (offs j_ 0).toNat (Pr.mk 0 0)) ≥ (↑ws.length : Int))) (K (.tup [.row 3, .row 4, vi 3]) [.row 0 ws true, .cells U (yc l2), .cells U2 [vi x.2.1, vi x.2.2.1, vi x.2.2.2.1, vi x.2.2.2.2], .row 0 ([] : List Int) false, .row 2 ([] : List Pr) false]) (Req (inR (Pr.Addr (ps_.getD (offs j_ 0).toNat (Pr.mk 0 0))) now_.length) (Req (inR (offs (Pr.Addr (ps_.getD (offs j_ 0).toNat (Pr.mk 0 0))) 0) now_.length) (J1 (mkEnv [(0, .row 0), (7, .ptr 3 0), (10, .row 4), (31, .row 5), (32, vi len_), (33, vi (IntKind.i64.wrap (j_ + 1)))]) [.row 0 ws true, .cells U (yc l2), .cells U2 [vi x.2.1, vi x.2.2.1, vi x.2.2.2.1, vi x.2.2.2.2], .cells 0 [.row 0, .mp 6, .row 7], .row 0 (List.set now_ (Int.toNat (offs (Pr.Addr (ps_.getD (offs j_ 0).toNat (Pr.mk 0 0))) 0)) (Pr.Val (ps_.getD (offs j_ 0).toNat (Pr.mk 0 0))) : List Int) false, .row 2 ps_ false, .map mm_ mn_, .row 2 nd_ false])))))) (K (.tup [.row 3, .row 4, vi 0]) [.row 0 ws true, .cells U (yc l2), .cells U2 [vi x.2.1, vi x.2.2.1, vi x.2.2.2.1, vi x.2.2.2.2], .row 0 now_ false, .row 2 nd_ false])) := by kernel_rfl
theorem yjm (m_ : Nat → (List Int) → ya → (List (List Int)) → Option ((List Int) × (List Int))) (ws : List Int) (l2 : ya) (acts : List (List Int)) (U U2 U3 : TypeId) (K : V → Heap → Prop) : (exF (cfgDo_law11_after_1 m_) Tryz.f10 [.row 0, .fn 48 [.ptr 1 0, .ptr 2 0, .ptr 3 0]] [.row 0 ws true, .cells U [.ext (.slice none 0 0)], .cells U2 [.row 4], .cells U3 (yc l2), .row 6 acts true] K) = (
    Req (decide (ws.length ≤ 1048576)) (∀ (y0 : Go.Value), ((ws = ws) ∧ ((1 ≤ 2) ∧ (So (m_ ws.length ws l2 acts) (fun (y1 : List Int × List Int) => ((y0 = y0) ∧ (∀ (y2 : Int → Option Int), (∀ (y3 : Nat), (∀ (y4 : List Pr), (∀ (y5 : List (List Int)), ((ViewOK ws y1.1 y2 y4 y5) → (Req (Nat.ble y5.length 1048576) (Req (decide (0 + ws.length ≤ 1048576)) (Loop (cfgDo_law11_after_1 m_) (⟨54, 5⟩ : Cx) (at_ (bodyOf Tryz.f10) [1, 1, 1, 1, 1, 1, 0, 1, 0, 0]) (mkEnv [(0, .row 0), (7, .ptr 5 0), (10, .row 6), (31, .row 7), (32, vi (↑(List.length (List.map prOf y5)) : Int)), (33, vi 0)]) [.row 0 ws true, .cells U [.row 8], .cells U2 [.row 4], .cells U3 (yc l2), .row 6 acts true, .cells 0 [.row 0, .mp 9, .row 10], .row 0 ws false, .row 2 (List.map prOf y5 : List Pr) false, .row 0 (y1.2 : List Int) false, .map y2 y3, .row 2 y4 false] (contK (cfgDo_law11_after_1 m_) (⟨54, 5⟩ : Cx) (bodyOf Tryz.f10) [1, 1, 1, 1, 1, 1, 0, 1, 0] (retK (cfgDo_law11_after_1 m_) Tryz.f10 5 K))))))))))))))))) := by kernel_rfl
theorem yek (m_ : Nat → (List Int) → ya → (List (List Int)) → Option ((List Int) × (List Int))) (ws : List Int) (l2 : ya) (acts : List (List Int)) (U U2 U3 : TypeId) (x : (List Int) × (List Int)) (now_ : List Int) (ps_ nd_ : List Pr) (mm_ : Int → Option Int) (mn_ : Nat) (len_ j_ : Int) (K : V → Heap → Prop) (J1 : Env → Heap → Prop) : (ex (cfgDo_law11_after_1 m_) (⟨54, 5⟩ : Cx) (at_ (bodyOf Tryz.f10) [1, 1, 1, 1, 1, 1, 0, 1, 0, 0]) (mkEnv [(0, .row 0), (7, .ptr 5 0), (10, .row 6), (31, .row 7), (32, vi len_), (33, vi j_)]) [.row 0 ws true, .cells U [.row 8], .cells U2 [.row 4], .cells U3 (yc l2), .row 6 acts true, .cells 0 [.row 0, .mp 9, .row 10], .row 0 now_ false, .row 2 ps_ false, .row 0 x.2 false, .map mm_ mn_, .row 2 nd_ false] (roundK (cfgDo_law11_after_1 m_) (⟨54, 5⟩ : Cx) (at_ (bodyOf Tryz.f10) [1, 1, 1, 1, 1, 1, 0, 1, 0, 0]) (contK (cfgDo_law11_after_1 m_) (⟨54, 5⟩ : Cx) (bodyOf Tryz.f10) [1, 1, 1, 1, 1, 1, 0, 1, 0] (retK (cfgDo_law11_after_1 m_) Tryz.f10 5 K)) J1)) = (
    br (decide (j_ < len_)) (Req (inR j_ ps_.length) (Req (inR (offs j_ 0) ps_.length) (br (decide (Pr.Addr (ps_.getD (offs j_ 0).toNat (Pr.mk 0 0)) ≥ (↑ws.length : Int))) (K (.tup [.row 5, .row 6, vi 3]) [.row 0 ws true, .cells U [.row 7], .cells U2 [.row 4], .cells U3 (yc l2), .row 6 acts true, .row 0 ([] : List Int) false, .row 2 ([] : List Pr) false, .row 0 (x.2 : List Int) false]) (Req (inR (Pr.Addr (ps_.getD (offs j_ 0).toNat (Pr.mk 0 0))) now_.length) (Req (inR (offs (Pr.Addr (ps_.getD (offs j_ 0).toNat (Pr.mk 0 0))) 0) now_.length) (J1 (mkEnv [(0, .row 0), (7, .ptr 5 0), (10, .row 6), (31, .row 7), (32, vi len_), (33, vi (IntKind.i64.wrap (j_ + 1)))]) [.row 0 ws true, .cells U [.row 8], .cells U2 [.row 4], .cells U3 (yc l2), .row 6 acts true, .cells 0 [.row 0, .mp 9, .row 10], .row 0 (List.set now_ (Int.toNat (offs (Pr.Addr (ps_.getD (offs j_ 0).toNat (Pr.mk 0 0))) 0)) (Pr.Val (ps_.getD (offs j_ 0).toNat (Pr.mk 0 0))) : List Int) false, .row 2 ps_ false, .row 0 (x.2 : List Int) false, .map mm_ mn_, .row 2 nd_ false])))))) (K (.tup [.row 5, .row 6, vi 0]) [.row 0 ws true, .cells U [.row 7], .cells U2 [.row 4], .cells U3 (yc l2), .row 6 acts true, .row 0 now_ false, .row 2 nd_ false, .row 0 (x.2 : List Int) false])) := by kernel_rfl
attribute [local irreducible] Loop ex exF contK roundK retK at_ bodyOf mkEnv
theorem okdo_law11_PagesBack_1 {m_ : Nat → (List Int) → ya → Int → Bool → Option ((List Int) × Bool)} (hm : SpecOK Tryz.prog elTT 28 (y7t m_)) : SpecOK Tryz.prog elTT 10 (ydr m_) := by
  refine spec_of_exF (cfg := cfgDo_law11_PagesBack_1 m_) (yg rfl rfl rfl) (sigDo_ok hm) (fn := Tryz.f10) (by kernel_rfl) (by kernel_rfl) (by kernel_rfl) ?_
  intro args H K h
  change y66 m_ args H K at h
  unfold y66 at h
  replace h := aC_el h
  obtain ⟨a0, _, rfl, h⟩ := h
  replace h := aC_el h
  obtain ⟨a1, _, rfl, h⟩ := h
  replace h := aN_el h
  obtain ⟨rfl, h⟩ := h
  replace h := aRow_el h
  obtain ⟨rfl, h⟩ := h
  replace h := aFn_el h
  obtain ⟨cs, rfl, h⟩ := h
  replace h := aC_el h
  obtain ⟨p0, _, rfl, h⟩ := h
  replace h := aC_el h
  obtain ⟨p1, _, rfl, h⟩ := h
  replace h := aC_el h
  obtain ⟨p2, _, rfl, h⟩ := h
  replace h := aN_el h
  obtain ⟨rfl, h⟩ := h
  replace h := aPtr_el h
  obtain ⟨rfl, h⟩ := h
  replace h := aPtr_el h
  obtain ⟨rfl, h⟩ := h
  replace h := aPtr_el h
  obtain ⟨rfl, h⟩ := h
  replace h := aC_el h
  obtain ⟨b4, _, rfl, h⟩ := h
  replace h := aC_el h
  obtain ⟨b1, _, rfl, h⟩ := h
  replace h := aC_el h
  obtain ⟨b2, _, rfl, h⟩ := h
  replace h := aC_el h
  obtain ⟨b3, _, rfl, h⟩ := h
  replace h := aN_el h
  obtain ⟨rfl, h⟩ := h
  replace h := bRow_el h
  obtain ⟨(ws : List Int), rfl, h⟩ := h
  replace h := bCells_el h
  obtain ⟨U, c1, rfl, h⟩ := h
  replace h := y4o h
  obtain ⟨l2, rfl, h⟩ := h
  replace h := bCells_el h
  obtain ⟨U2, c2, rfl, h⟩ := h
  replace h := aC_el h
  obtain ⟨d2_0, _, rfl, h⟩ := h
  replace h := aInt_el h
  obtain ⟨q, rfl, h⟩ := h
  replace h := aN_el h
  obtain ⟨rfl, h⟩ := h
  replace h := bCells_el h
  obtain ⟨U3, c3, rfl, h⟩ := h
  replace h := aC_el h
  obtain ⟨d3_0, _, rfl, h⟩ := h
  replace h := aBool_el h
  obtain ⟨right, rfl, h⟩ := h
  replace h := aN_el h
  obtain ⟨rfl, h⟩ := h
  replace h := Req_el h
  obtain ⟨hsm, h⟩ := h
  have hsm := Nat.le_of_ble_eq_true hsm
  refine Eq.mpr (yhw m_ ws l2 q right U U2 U3 K) (Req_intro (by simpa using hsm) fun y => ⟨rfl, by decide, ?_⟩)
  refine So_imp h fun x hk => ?_
  refine ⟨rfl, fun mm mn nd its hv => Req_intro (Nat.ble_eq_true_of_le (by have := view_its hv; omega)) (Req_intro (decide_eq_true (by omega)) ?_)⟩
  have hlen := view_its hv
  refine loop_ind (σ := Nat) (fun j => (mkEnv [(0, .row 0), (7, .ptr 4 0), (10, .row 5), (31, .row 6), (32, vi ((its.map prOf).length : Int)), (33, vi ((j : Nat) : Int))]))
    (fun j => [.row 0 ws true, .cells U (yc l2), .cells U2 [vi q], .cells U3 [vb x.2], .cells 0 [.row 0, .mp 7, .row 8], .row 0 (nowN ws its j) false, .row 2 (its.map prOf) false, .map mm mn, .row 2 nd false]) (fun j => j ≤ its.length) (fun j => its.length - j) ?_ 0 (Nat.zero_le _)
  intro j hj J hJ
  refine Eq.mpr (yeq m_ ws l2 q right U U2 U3 x (nowN ws its j) (its.map prOf) nd mm mn _ j K J) (br_intro (fun h1 => ?_) (fun h1 => ?_))
  · have h1 : j < its.length := by simpa using h1
    have h1' : j < (its.map prOf).length := by simpa using h1
    obtain ⟨p1, p2⟩ := pr_in hv h1
    have hnx := hJ (j + 1) h1 (by omega)
    simp only [offs_nat, inR_nat h1', Req_true, Int.toNat_natCast, wrap_succ (show j ≤ 4611686018427387904 by omega), prs_get h1]
    simp only [nowN] at hnx
    generalize prOf (its.getD j []) = p at *
    have hoff : offs p.Addr 0 = p.Addr := by
      have e : p.Addr = ((p.Addr.toNat : Nat) : Int) := by omega
      rw [e]; rfl
    have hin : inR p.Addr (nowN ws its j).length = true := by rw [nowN_len]; exact inR_int p1 p2
    refine br_false (decide_eq_false (by omega)) (Req_intro hin (Req_intro (by rw [hoff]; exact hin) ?_))
    rw [hoff]
    exact hnx
  · have h1 : j = its.length := by simp at h1; omega
    subst h1
    rw [nowN_all hv]
    exact hk nd
theorem okdo_law11_lives_1 {m_ : Nat → (List Int) → ya → Int → Int → Int → Int → Option ((List Int) × Int × Int × Int × Int)} (hm : SpecOK Tryz.prog elTT 35 (y9b m_)) : SpecOK Tryz.prog elTT 10 (yee m_) := by
  refine spec_of_exF (cfg := cfgDo_law11_lives_1 m_) (yg rfl rfl rfl) (sigDo_ok hm) (fn := Tryz.f10) (by kernel_rfl) (by kernel_rfl) (by kernel_rfl) ?_
  intro args H K h
  change y7h m_ args H K at h
  unfold y7h at h
  replace h := aC_el h
  obtain ⟨a0, _, rfl, h⟩ := h
  replace h := aC_el h
  obtain ⟨a1, _, rfl, h⟩ := h
  replace h := aN_el h
  obtain ⟨rfl, h⟩ := h
  replace h := aRow_el h
  obtain ⟨rfl, h⟩ := h
  replace h := aFn_el h
  obtain ⟨cs, rfl, h⟩ := h
  replace h := aC_el h
  obtain ⟨p0, _, rfl, h⟩ := h
  replace h := aC_el h
  obtain ⟨p1, _, rfl, h⟩ := h
  replace h := aN_el h
  obtain ⟨rfl, h⟩ := h
  replace h := aPtr_el h
  obtain ⟨rfl, h⟩ := h
  replace h := aPtr_el h
  obtain ⟨rfl, h⟩ := h
  replace h := aC_el h
  obtain ⟨b3, _, rfl, h⟩ := h
  replace h := aC_el h
  obtain ⟨b1, _, rfl, h⟩ := h
  replace h := aC_el h
  obtain ⟨b2, _, rfl, h⟩ := h
  replace h := aN_el h
  obtain ⟨rfl, h⟩ := h
  replace h := bRow_el h
  obtain ⟨(ws : List Int), rfl, h⟩ := h
  replace h := bCells_el h
  obtain ⟨U, c1, rfl, h⟩ := h
  replace h := y4o h
  obtain ⟨l2, rfl, h⟩ := h
  replace h := bCells_el h
  obtain ⟨U2, c2, rfl, h⟩ := h
  replace h := aC_el h
  obtain ⟨d2_0, _, rfl, h⟩ := h
  replace h := aInt_el h
  obtain ⟨a_0, rfl, h⟩ := h
  replace h := aC_el h
  obtain ⟨d2_1, _, rfl, h⟩ := h
  replace h := aInt_el h
  obtain ⟨a_1, rfl, h⟩ := h
  replace h := aC_el h
  obtain ⟨d2_2, _, rfl, h⟩ := h
  replace h := aInt_el h
  obtain ⟨a_2, rfl, h⟩ := h
  replace h := aC_el h
  obtain ⟨d2_3, _, rfl, h⟩ := h
  replace h := aInt_el h
  obtain ⟨a_3, rfl, h⟩ := h
  replace h := aN_el h
  obtain ⟨rfl, h⟩ := h
  replace h := Req_el h
  obtain ⟨hsm, h⟩ := h
  have hsm := Nat.le_of_ble_eq_true hsm
  refine Eq.mpr (ygo m_ ws l2 a_0 a_1 a_2 a_3 U U2 K) (Req_intro (by simpa using hsm) fun y => ⟨rfl, by decide, ?_⟩)
  refine So_imp h fun x hk => ?_
  refine ⟨rfl, fun mm mn nd its hv => Req_intro (Nat.ble_eq_true_of_le (by have := view_its hv; omega)) (Req_intro (decide_eq_true (by omega)) ?_)⟩
  have hlen := view_its hv
  refine loop_ind (σ := Nat) (fun j => (mkEnv [(0, .row 0), (7, .ptr 3 0), (10, .row 4), (31, .row 5), (32, vi ((its.map prOf).length : Int)), (33, vi ((j : Nat) : Int))]))
    (fun j => [.row 0 ws true, .cells U (yc l2), .cells U2 [vi x.2.1, vi x.2.2.1, vi x.2.2.2.1, vi x.2.2.2.2], .cells 0 [.row 0, .mp 6, .row 7], .row 0 (nowN ws its j) false, .row 2 (its.map prOf) false, .map mm mn, .row 2 nd false]) (fun j => j ≤ its.length) (fun j => its.length - j) ?_ 0 (Nat.zero_le _)
  intro j hj J hJ
  refine Eq.mpr (yi5 m_ ws l2 a_0 a_1 a_2 a_3 U U2 x (nowN ws its j) (its.map prOf) nd mm mn _ j K J) (br_intro (fun h1 => ?_) (fun h1 => ?_))
  · have h1 : j < its.length := by simpa using h1
    have h1' : j < (its.map prOf).length := by simpa using h1
    obtain ⟨p1, p2⟩ := pr_in hv h1
    have hnx := hJ (j + 1) h1 (by omega)
    simp only [offs_nat, inR_nat h1', Req_true, Int.toNat_natCast, wrap_succ (show j ≤ 4611686018427387904 by omega), prs_get h1]
    simp only [nowN] at hnx
    generalize prOf (its.getD j []) = p at *
    have hoff : offs p.Addr 0 = p.Addr := by
      have e : p.Addr = ((p.Addr.toNat : Nat) : Int) := by omega
      rw [e]; rfl
    have hin : inR p.Addr (nowN ws its j).length = true := by rw [nowN_len]; exact inR_int p1 p2
    refine br_false (decide_eq_false (by omega)) (Req_intro hin (Req_intro (by rw [hoff]; exact hin) ?_))
    rw [hoff]
    exact hnx
  · have h1 : j = its.length := by simp at h1; omega
    subst h1
    rw [nowN_all hv]
    exact hk nd
theorem okdo_law11_after_1 {m_ : Nat → (List Int) → ya → (List (List Int)) → Option ((List Int) × (List Int))} (hm : SpecOK Tryz.prog elTT 48 (y6e m_)) : SpecOK Tryz.prog elTT 10 (yb7 m_) := by
  refine spec_of_exF (cfg := cfgDo_law11_after_1 m_) (yg rfl rfl rfl) (sigDo_ok hm) (fn := Tryz.f10) (by kernel_rfl) (by kernel_rfl) (by kernel_rfl) ?_
  intro args H K h
  change y7x m_ args H K at h
  unfold y7x at h
  replace h := aC_el h
  obtain ⟨a0, _, rfl, h⟩ := h
  replace h := aC_el h
  obtain ⟨a1, _, rfl, h⟩ := h
  replace h := aN_el h
  obtain ⟨rfl, h⟩ := h
  replace h := aRow_el h
  obtain ⟨rfl, h⟩ := h
  replace h := aFn_el h
  obtain ⟨cs, rfl, h⟩ := h
  replace h := aC_el h
  obtain ⟨p0, _, rfl, h⟩ := h
  replace h := aC_el h
  obtain ⟨p1, _, rfl, h⟩ := h
  replace h := aC_el h
  obtain ⟨p2, _, rfl, h⟩ := h
  replace h := aN_el h
  obtain ⟨rfl, h⟩ := h
  replace h := aPtr_el h
  obtain ⟨rfl, h⟩ := h
  replace h := aPtr_el h
  obtain ⟨rfl, h⟩ := h
  replace h := aPtr_el h
  obtain ⟨rfl, h⟩ := h
  replace h := aC_el h
  obtain ⟨b4, _, rfl, h⟩ := h
  replace h := aC_el h
  obtain ⟨b1, _, rfl, h⟩ := h
  replace h := aC_el h
  obtain ⟨b2, _, rfl, h⟩ := h
  replace h := aC_el h
  obtain ⟨b3, _, rfl, h⟩ := h
  replace h := aC_el h
  obtain ⟨b5, _, rfl, h⟩ := h
  replace h := aN_el h
  obtain ⟨rfl, h⟩ := h
  replace h := bRow_el h
  obtain ⟨(ws : List Int), rfl, h⟩ := h
  replace h := bCells_el h
  obtain ⟨U, c1, rfl, h⟩ := h
  replace h := aC_el h
  obtain ⟨d1_0, _, rfl, h⟩ := h
  replace h := aNilS_el h
  obtain ⟨rfl, h⟩ := h
  replace h := aN_el h
  obtain ⟨rfl, h⟩ := h
  replace h := bCells_el h
  obtain ⟨U2, c2, rfl, h⟩ := h
  replace h := aC_el h
  obtain ⟨d2_0, _, rfl, h⟩ := h
  replace h := aRow_el h
  obtain ⟨rfl, h⟩ := h
  replace h := aN_el h
  obtain ⟨rfl, h⟩ := h
  replace h := bCells_el h
  obtain ⟨U3, c3, rfl, h⟩ := h
  replace h := y4o h
  obtain ⟨l2, rfl, h⟩ := h
  replace h := bRow_el h
  obtain ⟨(acts : List (List Int)), rfl, h⟩ := h
  replace h := Req_el h
  obtain ⟨hsm, h⟩ := h
  have hsm := Nat.le_of_ble_eq_true hsm
  refine Eq.mpr (yjm m_ ws l2 acts U U2 U3 K) (Req_intro (by simpa using hsm) fun y => ⟨rfl, by decide, ?_⟩)
  refine So_imp h fun x hk => ?_
  refine ⟨rfl, fun mm mn nd its hv => Req_intro (Nat.ble_eq_true_of_le (by have := view_its hv; omega)) (Req_intro (decide_eq_true (by omega)) ?_)⟩
  have hlen := view_its hv
  refine loop_ind (σ := Nat) (fun j => (mkEnv [(0, .row 0), (7, .ptr 5 0), (10, .row 6), (31, .row 7), (32, vi ((its.map prOf).length : Int)), (33, vi ((j : Nat) : Int))]))
    (fun j => [.row 0 ws true, .cells U [.row 8], .cells U2 [.row 4], .cells U3 (yc l2), .row 6 acts true, .cells 0 [.row 0, .mp 9, .row 10], .row 0 (nowN ws its j) false, .row 2 (its.map prOf) false, .row 0 x.2 false, .map mm mn, .row 2 nd false]) (fun j => j ≤ its.length) (fun j => its.length - j) ?_ 0 (Nat.zero_le _)
  intro j hj J hJ
  refine Eq.mpr (yek m_ ws l2 acts U U2 U3 x (nowN ws its j) (its.map prOf) nd mm mn _ j K J) (br_intro (fun h1 => ?_) (fun h1 => ?_))
  · have h1 : j < its.length := by simpa using h1
    have h1' : j < (its.map prOf).length := by simpa using h1
    obtain ⟨p1, p2⟩ := pr_in hv h1
    have hnx := hJ (j + 1) h1 (by omega)
    simp only [offs_nat, inR_nat h1', Req_true, Int.toNat_natCast, wrap_succ (show j ≤ 4611686018427387904 by omega), prs_get h1]
    simp only [nowN] at hnx
    generalize prOf (its.getD j []) = p at *
    have hoff : offs p.Addr 0 = p.Addr := by
      have e : p.Addr = ((p.Addr.toNat : Nat) : Int) := by omega
      rw [e]; rfl
    have hin : inR p.Addr (nowN ws its j).length = true := by rw [nowN_len]; exact inR_int p1 p2
    refine br_false (decide_eq_false (by omega)) (Req_intro hin (Req_intro (by rw [hoff]; exact hin) ?_))
    rw [hoff]
    exact hnx
  · have h1 : j = its.length := by simp at h1; omega
    subst h1
    rw [nowN_all hv]
    exact hk nd
end Go.Rx
end

noncomputable section
namespace Go.Rx
open Go.Proofs
set_option maxRecDepth 100000
set_option maxHeartbeats 4000000
def y6y (m_ : Option Bool) (args : List V) (H : Heap) (K : V → Heap → Prop) : Prop :=
  aN args <| aN H <| So (m_ ) fun x => K (vb x) []
def yaq (m_ : Option Bool) : Spec := ⟨y6y m_, (true : Bool)⟩
def y7w (m_ : yb → (List (List Int)) → Option (ya × (List Int) × (List Int) × Bool)) (args : List V) (H : Heap) (K : V → Heap → Prop) : Prop :=
  aC args fun a0 r => aC r fun a1 r => aN r <| aAgg a0 fun c0 => y3e c0 fun c => aRow 0 a1 <| aC H fun b0 r => aN r <| bRow 6 true b0 fun (acts : List (List Int)) => So (m_ c acts) fun x => K (.tup [.agg (yc x.1), .row 1, .row 2, vb x.2.2.2]) [.row 6 acts true, .row 0 x.2.1 false, .row 0 x.2.2.1 false]
def yce (m_ : yb → (List (List Int)) → Option (ya × (List Int) × (List Int) × Bool)) : Spec := ⟨y7w m_, (true : Bool)⟩
def y8g (m_ : yb → Int → (List (List Int)) → Option Bool) (args : List V) (H : Heap) (K : V → Heap → Prop) : Prop :=
  aC args fun a0 r => aC r fun a1 r => aC r fun a2 r => aN r <| aAgg a0 fun c0 => y3e c0 fun c => aRow 0 a1 <| aInt a2 fun q => aC H fun b0 r => aN r <| bRow 6 true b0 fun (acts : List (List Int)) => So (m_ c q acts) fun x => K (vb x) [.row 6 acts true]
def yix (m_ : yb → Int → (List (List Int)) → Option Bool) : Spec := ⟨y8g m_, (true : Bool)⟩
def ya9 (y1e : Y36) (y0w : Y42) (y37 : Y26) (y2p : Y5) (y0a : Y26) : Cfg := { cfgB with
  sigs := (sigC 32 (y64 y1e) (sigC 33 (y6p y0w) (sigC 34 (yba y37) (sigC 10 (yee y2p) (sigC 36 (y6w y0a) sigN))))),
  plan := fun r => match r with | 6 => some (List.range 35, 0) | _ => none }
def ye6 (y1w : Y41) (y1z : Nat → (List Int) → ya → (List (List Int)) → Option ((List Int) × (List Int))) : Cfg := { cfgB with
  sigs := (sigC 7 (ydd y1w) (sigC 10 (yb7 y1z) sigN)),
  plan := fun r => match r with | 4 => some (List.range 16, 48) | _ => none,
  flag := fun d => Nat.beq d 4 }
def y2u (y0i : Option Bool) (y0k : yb → (List (List Int)) → Option (ya × (List Int) × (List Int) × Bool)) (y0n : Y9) (yh : Y22) (y02 yr ym : Y1) : Cfg := { cfgB with
  sigs := (sigC 6 (yaq y0i) (sigC 16 (yce y0k) (sigC 10 (ydr y0n) (sigC 17 (y3h yh) (sigC 18 (y5e y02) (sigC 31 (y48 yr) (sigC 22 (y49 ym) sigN))))))),
  keep := fun r => match r with | 9 => some [(7, none), (8, some 0), (11, none), (12, some 0), (15, none)] | _ => none,
  plan := fun r => match r with | 11 => some ([0, 1, 2, 6, 7, 8, 3, 4, 5, 9, 10, 11, 12, 13, 14, 15, 16, 20, 21, 22, 17, 18, 19, 23, 24, 25, 26, 27, 28, 29, 30, 31, 35, 36, 37, 32, 33, 34, 38, 39, 40, 41, 42], 0) | _ => none }
theorem yfi (y1e : Y36) (y0w : Y42) (y37 : Y26) (y2p : Y5) (y0a : Y26) (K : V → Heap → Prop) : (exF (ya9 y1e y0w y37 y2p y0a) Tryz.f6 [] [] K) = (
    So (y1e (yb.mk 0 0 0 0 0 0 0 0 0 0 0)) (fun (y0 : yb) => (So (y0w (yb.mk y0.Workers y0.CPUs 2 y0.Stripes y0.Tries y0.Wait y0.Clock y0.Private y0.Cache y0.Bin y0.Batch)) (fun (y1 : ya × Int) => (So (y37 y1.1) (fun (y2 : Int) => (Req (decide (0 ≤ y2 ∧ y2 ≤ y2 ∧ y2 ≤ 1048576)) (Req (Nat.ble (List.length (List.replicate (Int.toNat y2) (0 : Int))) (1048576 : Nat)) (So (y2p (List.length (List.replicate (Int.toNat y2) (0 : Int))) (List.replicate (Int.toNat y2) (0 : Int)) y1.1 (0 : Int) (0 : Int) (0 : Int) (0 : Int)) (fun (y3 : List Int × Int × Int × Int × Int) => (∀ (y4 : List Pr), (br (y1.2 == 0) (So (y0a y1.1) (fun (y5 : Int) => (br (y3.2.1 == y5) (br (y3.2.2.1 == IntKind.i64.wrap (y3.2.1 + 16)) (br (y3.2.2.2.1 == IntKind.i64.wrap (y3.2.1 + 32)) (K (vb (y3.2.2.2.2 == 1)) []) (K (vb false) [])) (K (vb false) [])) (K (vb false) [])))) (K (vb false) []))))))))))))) := by kernel_rfl
theorem yj4 (y1w : Y41) (y1z : Nat → (List Int) → ya → (List (List Int)) → Option ((List Int) × (List Int))) (c : yb) (acts : List (List Int)) (K : V → Heap → Prop) : (exF (ye6 y1w y1z) Tryz.f16 [.agg (y1j c), .row 0] [.row 6 acts true] K) = (
    So (y1w c) (fun (y0 : ya × yf × List Int) => (Req (Nat.ble y0.2.2.length 1048576) (So (y1z y0.2.2.length y0.2.2 y0.1 acts) (fun (y1 : List Int × List Int) => (∀ (y2 : List Pr), (K (.tup [.agg (yc y0.1), .row 1, .row 2, vb ((↑y1.1.length : Int) == (↑y0.2.2.length : Int))]) [.row 6 acts true, .row 0 (y1.1 : List Int) false, .row 0 (y1.2 : List Int) false]))))))) := by kernel_rfl
theorem yhy (y0i : Option Bool) (y0k : yb → (List (List Int)) → Option (ya × (List Int) × (List Int) × Bool)) (y0n : Y9) (yh : Y22) (y02 yr ym : Y1) (c : yb) (q : Int) (acts : List (List Int)) (p : Int) (c2 : ya) (w : List Int) (c3 : Bool) (w2 : List Int) (K : V → Heap → Prop) (J1 : Env → Heap → Prop) : (ex (y2u y0i y0k y0n yh y02 yr ym) (⟨102, 1⟩ : Cx) (at_ (bodyOf Tryz.f5) [1, 1, 1, 1, 1, 1, 0, 1, 0, 0]) (mkEnv [(7, .ptr 1 0), (8, .row 2), (11, .ptr 3 0), (12, .row 4), (15, vi p)]) [.row 6 acts true, .cells 28 (yc c2), .row 0 w false, .cells 4 [vb c3], .row 0 w2 false] (roundK (y2u y0i y0k y0n yh y02 yr ym) (⟨102, 1⟩ : Cx) (at_ (bodyOf Tryz.f5) [1, 1, 1, 1, 1, 1, 0, 1, 0, 0]) (contK (y2u y0i y0k y0n yh y02 yr ym) (⟨102, 1⟩ : Cx) (bodyOf Tryz.f5) [1, 1, 1, 1, 1, 1, 0, 1, 0] (retK (y2u y0i y0k y0n yh y02 yr ym) Tryz.f5 1 K)) J1)) = (
    So (yh c2) (fun (y0 : yb) => (br (decide (p < y0.Pages)) (So (y02 c2 p) (fun (y1 : Int) => (Req (inR y1 w2.length) (Req (inR (offs y1 0) w2.length) (So (y02 c2 p) (fun (y2 : Int) => (Req (inR y2 w.length) (Req (inR (offs y2 0) w.length) (br (w2.getD (offs y1 0).toNat 0 != w.getD (offs y2 0).toNat 0) (K (vb false) [.row 6 acts true]) (So (yr c2 p) (fun (y3 : Int) => (Req (inR y3 w2.length) (Req (inR (offs y3 0) w2.length) (So (yr c2 p) (fun (y4 : Int) => (Req (inR y4 w.length) (Req (inR (offs y4 0) w.length) (br (w2.getD (offs y3 0).toNat 0 != w.getD (offs y4 0).toNat 0) (K (vb false) [.row 6 acts true]) (So (ym c2 p) (fun (y5 : Int) => (Req (inR y5 w2.length) (Req (inR (offs y5 0) w2.length) (So (ym c2 p) (fun (y6 : Int) => (Req (inR y6 w.length) (Req (inR (offs y6 0) w.length) (br (w2.getD (offs y5 0).toNat 0 != w.getD (offs y6 0).toNat 0) (K (vb false) [.row 6 acts true]) (J1 (mkEnv [(7, .ptr 1 0), (8, .row 2), (11, .ptr 3 0), (12, .row 4), (15, vi (IntKind.i64.wrap (p + 1)))]) [.row 6 acts true, .cells 28 (yc c2), .row 0 w false, .cells 4 [vb c3], .row 0 w2 false])))))))))))))))))))))))))))) (br c3 (So y0i (fun (y7 : Bool) => (K (vb y7) [.row 6 acts true]))) (K (vb false) [.row 6 acts true]))))) := by kernel_rfl
theorem yel (y0i : Option Bool) (y0k : yb → (List (List Int)) → Option (ya × (List Int) × (List Int) × Bool)) (y0n : Y9) (yh : Y22) (y02 yr ym : Y1) (c : yb) (q : Int) (acts : List (List Int)) (K : V → Heap → Prop) : (exF (y2u y0i y0k y0n yh y02 yr ym) Tryz.f5 [.agg (y1j c), .row 0, vi q] [.row 6 acts true] K) = (
    br (decide ((↑acts.length : Int) > 60)) (So y0i (fun (y0 : Bool) => (K (vb y0) [.row 6 acts true]))) (So (y0k c acts) (fun (y1 : ya × List Int × List Int × Bool) => (Req (Nat.ble y1.2.1.length 1048576) (So (y0n y1.2.1.length y1.2.1 y1.1 q false) (fun (y2 : List Int × Bool) => (∀ (y3 : List Pr), (br (!y1.2.2.2) (K (vb false) [.row 6 acts true]) (br ((↑y2.1.length : Int) != (↑y1.2.1.length : Int)) (K (vb false) [.row 6 acts true]) (Loop (y2u y0i y0k y0n yh y02 yr ym) (⟨102, 1⟩ : Cx) (at_ (bodyOf Tryz.f5) [1, 1, 1, 1, 1, 1, 0, 1, 0, 0]) (mkEnv [(7, .ptr 1 0), (8, .row 2), (11, .ptr 3 0), (12, .row 4), (15, vi 0)]) [.row 6 acts true, .cells 28 (yc y1.1), .row 0 (y1.2.1 : List Int) false, .cells 4 [vb y2.2], .row 0 (y2.1 : List Int) false] (contK (y2u y0i y0k y0n yh y02 yr ym) (⟨102, 1⟩ : Cx) (bodyOf Tryz.f5) [1, 1, 1, 1, 1, 1, 0, 1, 0] (retK (y2u y0i y0k y0n yh y02 yr ym) Tryz.f5 1 K)))))))))))) := by kernel_rfl
def y0i  : Option Bool :=
  ((y1e (yb.mk 0 0 0 0 0 0 0 0 0 0 0)).bind fun y0 => ((y0w (yb.mk y0.Workers y0.CPUs 2 y0.Stripes y0.Tries y0.Wait y0.Clock y0.Private y0.Cache y0.Bin y0.Batch)).bind fun y1 => ((y37 y1.1).bind fun y2 => (bif (decide (0 ≤ y2 ∧ y2 ≤ y2 ∧ y2 ≤ 1048576)) then (bif (Nat.ble (List.length (List.replicate (Int.toNat y2) (0 : Int))) (1048576 : Nat)) then ((y2p (List.length (List.replicate (Int.toNat y2) (0 : Int))) (List.replicate (Int.toNat y2) (0 : Int)) y1.1 (0 : Int) (0 : Int) (0 : Int) (0 : Int)).bind fun y3 => (bif (y1.2 == 0) then ((y0a y1.1).bind fun y5 => (bif (y3.2.1 == y5) then (bif (y3.2.2.1 == IntKind.i64.wrap (y3.2.1 + 16)) then (bif (y3.2.2.2.1 == IntKind.i64.wrap (y3.2.1 + 32)) then some (y3.2.2.2.2 == 1) else some false) else some false) else some false)) else some false)) else none) else none))))
def y0k (c : yb) (acts : List (List Int)) : Option (ya × (List Int) × (List Int) × Bool) :=
  ((y1w c).bind fun y0 => (bif (Nat.ble y0.2.2.length 1048576) then ((y1z y0.2.2.length y0.2.2 y0.1 acts).bind fun y1 => some (y0.1, y1.1, y1.2, ((↑y1.1.length : Int) == (↑y0.2.2.length : Int)))) else none))
def y4j (c2 : ya) (w : List Int) (c3 : Bool) (w2 : List Int) (p : Int) : Option (Int ⊕ Bool) :=
  ((yh c2).bind fun y0 => (bif (decide (p < y0.Pages)) then ((y02 c2 p).bind fun y1 => (bif (inR y1 w2.length) then (bif (inR (offs y1 0) w2.length) then ((y02 c2 p).bind fun y2 => (bif (inR y2 w.length) then (bif (inR (offs y2 0) w.length) then (bif (w2.getD (offs y1 0).toNat 0 != w.getD (offs y2 0).toNat 0) then some (.inr false) else ((yr c2 p).bind fun y3 => (bif (inR y3 w2.length) then (bif (inR (offs y3 0) w2.length) then ((yr c2 p).bind fun y4 => (bif (inR y4 w.length) then (bif (inR (offs y4 0) w.length) then (bif (w2.getD (offs y3 0).toNat 0 != w.getD (offs y4 0).toNat 0) then some (.inr false) else ((ym c2 p).bind fun y5 => (bif (inR y5 w2.length) then (bif (inR (offs y5 0) w2.length) then ((ym c2 p).bind fun y6 => (bif (inR y6 w.length) then (bif (inR (offs y6 0) w.length) then (bif (w2.getD (offs y5 0).toNat 0 != w.getD (offs y6 0).toNat 0) then some (.inr false) else some (.inl (IntKind.i64.wrap (p + 1)))) else none) else none)) else none) else none))) else none) else none)) else none) else none))) else none) else none)) else none) else none)) else (bif c3 then (y0i.bind fun y7 => some (.inr y7)) else some (.inr false))))
def ycf (c2 : ya) (w : List Int) (c3 : Bool) (w2 : List Int) (s : Int) : Option Bool :=
  loopO (fun s => y4j c2 w c3 w2 s) s
def y42 (c : yb) (q : Int) (acts : List (List Int)) : Option Bool :=
  (bif (decide ((↑acts.length : Int) > 60)) then (y0i.bind fun y0 => some y0) else ((y0k c acts).bind fun y1 => (bif (Nat.ble y1.2.1.length 1048576) then ((y0n y1.2.1.length y1.2.1 y1.1 q false).bind fun y2 => (bif (!y1.2.2.2) then some false else (bif ((↑y2.1.length : Int) != (↑y1.2.1.length : Int)) then some false else (ycf y1.1 y1.2.1 y2.2 y2.1 0)))) else none)))
attribute [local irreducible] Loop ex exF contK roundK retK at_ bodyOf mkEnv
theorem yi4 : SpecOK Tryz.prog elTT 6 (yaq y0i) := by
  refine spec_of_exF (cfg := (ya9 y1e y0w y37 y2p y0a)) (yg rfl rfl rfl) (yd ycs (yd ybu (yd yf8 (yd (okdo_law11_lives_1 yh5) (yd ycz yk))))) (fn := Tryz.f6) (by kernel_rfl) (by kernel_rfl) (by kernel_rfl) ?_
  intro args H K h
  change y6y y0i args H K at h
  unfold y6y at h
  repeat first | (obtain ⟨_, h⟩ := h) | replace h := Des.el h
  subst_vars
  refine Eq.mpr (yfi y1e y0w y37 y2p y0a  K) ?_
  unfold y0i at h
  revert h
  exact bind_So fun y0 => bind_So fun y1 => bind_So fun y2 => req_So (req_So (bind_So fun y3 => all_So fun y4 => br_So (bind_So fun y5 => br_So (br_So (br_So (fun h => h) (fun h => h)) (fun h => h)) (fun h => h)) (fun h => h)))
theorem yjf : SpecOK Tryz.prog elTT 16 (yce y0k) := by
  refine spec_of_exF (cfg := (ye6 y1w y1z)) (yg rfl rfl rfl) (yd yfl (yd (okdo_law11_after_1 yiu) yk)) (fn := Tryz.f16) (by kernel_rfl) (by kernel_rfl) (by kernel_rfl) ?_
  intro args H K h
  change y7w y0k args H K at h
  unfold y7w at h
  repeat first | (obtain ⟨_, h⟩ := h) | replace h := Des.el h
  subst_vars
  refine Eq.mpr (yj4 y1w y1z _ _ K) ?_
  unfold y0k at h
  revert h
  exact bind_So fun y0 => req_So (bind_So fun y1 => all_So fun y2 => fun h => h)
theorem lpok_law11_PagesBack_L1 (c : yb) (q : Int) (acts : List (List Int)) (p : Int) (c2 : ya) (w : List Int) (c3 : Bool) (w2 : List Int) (K : V → Heap → Prop) : So (ycf c2 w c3 w2 p) (fun (x : Bool) => K (vb x) [.row 6 acts true]) → Loop (y2u y0i y0k y0n yh y02 yr ym) (⟨102, 1⟩ : Cx) (at_ (bodyOf Tryz.f5) [1, 1, 1, 1, 1, 1, 0, 1, 0, 0]) (mkEnv [(7, .ptr 1 0), (8, .row 2), (11, .ptr 3 0), (12, .row 4), (15, vi p)]) [.row 6 acts true, .cells 28 (yc c2), .row 0 w false, .cells 4 [vb c3], .row 0 w2 false] (contK (y2u y0i y0k y0n yh y02 yr ym) (⟨102, 1⟩ : Cx) (bodyOf Tryz.f5) [1, 1, 1, 1, 1, 1, 0, 1, 0] (retK (y2u y0i y0k y0n yh y02 yr ym) Tryz.f5 1 K)) := by
  refine loopK_So (fun (s_ : Int) => (mkEnv [(7, .ptr 1 0), (8, .row 2), (11, .ptr 3 0), (12, .row 4), (15, vi s_)])) (fun (s_ : Int) => [.row 6 acts true, .cells 28 (yc c2), .row 0 w false, .cells 4 [vb c3], .row 0 w2 false]) (fun (x : Bool) => K (vb x) [.row 6 acts true]) ?_ p
  intro s_ J1 h
  clear p
  revert h; revert s_; intro p h
  refine Eq.mpr (yhy y0i y0k y0n yh y02 yr ym c q acts p c2 w c3 w2 K J1) ?_
  have h : So (y4j c2 w c3 w2 p) _ := h
  unfold y4j at h
  revert h
  exact bind_So fun y0 => br_So (bind_So fun y1 => req_So (req_So (bind_So fun y2 => req_So (req_So (br_So (fun h => h) (bind_So fun y3 => req_So (req_So (bind_So fun y4 => req_So (req_So (br_So (fun h => h) (bind_So fun y5 => req_So (req_So (bind_So fun y6 => req_So (req_So (br_So (fun h => h) (fun h => h)))))))))))))))) (br_So (bind_So fun y7 => fun h => h) (fun h => h))
theorem yio : SpecOK Tryz.prog elTT 5 (yix y42) := by
  refine spec_of_exF (cfg := (y2u y0i y0k y0n yh y02 yr ym)) (yg rfl rfl rfl) (yd yi4 (yd yjf (yd (okdo_law11_PagesBack_1 yem) (yd y3m (yd y8q (yd y4i (yd y50 yk))))))) (fn := Tryz.f5) (by kernel_rfl) (by kernel_rfl) (by kernel_rfl) ?_
  intro args H K h
  change y8g y42 args H K at h
  unfold y8g at h
  repeat first | (obtain ⟨_, h⟩ := h) | replace h := Des.el h
  subst_vars
  refine Eq.mpr (yel y0i y0k y0n yh y02 yr ym _ _ _ K) ?_
  unfold y42 at h
  revert h
  exact br_So (bind_So fun y0 => fun h => h) (bind_So fun y1 => req_So (bind_So fun y2 => all_So fun y3 => br_So (fun h => h) (br_So (fun h => h) (lpok_law11_PagesBack_L1 (by first | assumption | exact default) (by first | assumption | exact default) _ _ _ _ _ _ K))))
end Go.Rx
end

section
namespace Go.Rx
open Go.Proofs
theorem LayOK.words11 {L : ya} (h : LayOK L) : 128 ≤ L.at_11 ∧ L.at_11 ≤ 40000 := by
  have hb := h.big; have h11 := h.a11; have hp := h.pages
  omega
theorem addr4 {L : ya} {w x : List Int} {a p i : Int} {m : Nat} (t : Got L w 4 a x p i m) : a = L.at_10 + p * 32 + i * 16 := t.addr
theorem lives11_eq : y0i = some true := by
  unfold y0i
  obtain ⟨d, hS, hR⟩ := Small_eq (yb.mk 0 0 0 0 0 0 0 0 0 0 0)
  rw [hS, Option.bind_some, Of_eq]
  have hR' : RightC (yb.mk d.Workers d.CPUs 2 d.Stripes d.Tries d.Wait d.Clock d.Private d.Cache d.Bin d.Batch) :=
    ⟨hR.workers, hR.cpus, by simp only; omega, hR.stripes, hR.tries, hR.wait, hR.clock, hR.private_, hR.cache, hR.bin, hR.batch⟩
  rw [if_pos hR', Option.bind_some, Words_eq, Option.bind_some]
  have hL := layC_ok hR'
  have hP : (layC (yb.mk d.Workers d.CPUs 2 d.Stripes d.Tries d.Wait d.Clock d.Private d.Cache d.Bin d.Batch)).c.Pages = 2 := rfl
  simp only
  generalize layC (yb.mk d.Workers d.CPUs 2 d.Stripes d.Tries d.Wait d.Clock d.Private d.Cache d.Bin d.Batch) = L at *
  have hw := hL.words11
  have g := hL.geo11
  have gk := hL.geoK
  have v0 := rep_VOK hL
  have i0 := Inv11.start hL
  have hlen : (List.replicate L.at_11.toNat (0 : Int)).length = L.at_11.toNat := by simp
  rw [decide_eq_true (by omega), cond_true, Nat.ble_eq_true_of_le (by rw [hlen]; omega), cond_true]
  have hz : ∀ (b : Int), wd (List.replicate L.at_11.toNat 0) b = 0 := fun b => by
    simp [wd, List.getD, List.getElem?_replicate]; split <;> rfl
  generalize List.replicate L.at_11.toNat (0 : Int) = w at *
  have hn : L.at_11 ≤ (w.length : Int) := by omega
  have s4 : slotsC 4 = 2 := rfl
  have z4 : sizeC 4 = 16 := rfl
  obtain ⟨a1, b1, u1, e1, g1⟩ := pGrab_eq v0 i0 4
  obtain ⟨l1, inn1, ls1, i1⟩ := g1.inv hL hn i0
  have f1 : b1 = true ∧ a1 = L.at_10 := by
    cases g1 with
    | no h =>
      rcases h with h | ⟨_, h⟩
      · omega
      · exact (h 0 (by omega) (by omega) (hz _)).elim
    | @old p m j hc hp hf _ _ _ =>
      rcases first_cls i0 hc hf with ⟨e, _⟩ | ⟨_, ⟨m', f⟩, _⟩
      · omega
      · have := f.kind
        have : kw L w p = 0 := hz _
        omega
    | @new p u hc hf hr hp ht =>
      have ep : p = 0 := by
        refine hr.uniq ?_
        unfold FindR
        rw [if_pos (by omega)]
        have hk0 : ∀ q, 0 ≤ q → q < 2 → knd L.at_1 L.c.Pages w q = 0 := fun q a b => by rw [knd_in (by omega), hz]
        refine .inr ⟨.inl ⟨rfl, fun q q0 q1 dd => ?_⟩, fit_hit ⟨by decide, by omega, fun j j0 j1 => hk0 j j0 (by omega)⟩ (fun q q0 q1 => by omega)⟩
        have := (dd.all q (by omega) (by omega)).2
        unfold mpd isB at this
        have z : w.getD (L.at_0 + q / 4).toNat 0 = 0 := hz _
        rw [z] at this
        cases hh : thereB L.c.Pages (q / 4) <;> rw [hh] at this <;> cases this
      subst ep
      exact ⟨rfl, by omega⟩
  obtain ⟨rfl, ea1⟩ := f1
  obtain ⟨p1, j1, m1, t1⟩ := got_of hL hn i0 g1
  have hp1 := t1.page; have hj1 := t1.num; have ha1 := addr4 t1
  rw [s4] at hj1
  have ep1 : p1 = 0 := by omega
  have ej1 : j1 = 0 := by omega
  subst ep1; subst ej1
  have em1 : m1 = 0 := by
    rcases t1.was with ⟨h, _⟩ | ⟨_, _, _, h⟩
    · have : kw L w 0 = 0 := hz _
      omega
    · exact h
  subst em1
  have v1 : VOK L w.length u1 := ⟨hL, by rw [l1], v0.all⟩
  have k1 : kw L u1 0 = 5 := t1.kind
  have b1 : bw L u1 0 = ((1 : Nat) : Int) := t1.bits
  have c1 : cw L u1 0 = 1 := t1.left
  obtain ⟨ok1, oc1, ob1⟩ := t1.other 1 (by omega) (by omega) (by omega)
  have zk : kw L w 1 = 0 := hz _
  have zc : cw L w 1 = 0 := hz _
  obtain ⟨a2, b2, u2, e2, g2⟩ := pGrab_eq v1 i1 4
  obtain ⟨l2, inn2, ls2, i2⟩ := g2.inv hL (by rw [l1]; exact hn) i1
  have no1 : ¬ firstF ls1 4 1 (slotsC 4).toNat = -1 := fun h => by
    rcases first_cls i1 (by omega) h with ⟨_, h⟩ | ⟨h, _⟩
    · have := h 0 (by omega) (by omega) k1
      omega
    · omega
  have f2 : b2 = true ∧ a2 = L.at_10 + 16 := by
    cases g2 with
    | no h =>
      rcases h with h | ⟨h, _⟩
      · omega
      · exact (no1 h).elim
    | @old p m i hc hp hf hb hi h0 =>
      rcases first_cls i1 hc hf with ⟨e, _⟩ | ⟨hp, ⟨m', f⟩, _⟩
      · omega
      · have hk := f.kind
        have ep : p = 0 := by
          have h : p = 0 ∨ p = 1 := by omega
          rcases h with h | h
          · exact h
          · subst h; omega
        subst ep
        have em : m = 1 := by omega
        subst em
        have ei : i = 1 := hi.uniq (.inr ⟨by omega, by rw [s4]; decide, by decide, fun k hk => by
          have : k = 0 := by omega
          subst this; decide⟩)
        subst ei
        exact ⟨rfl, by omega⟩
    | new hc hf _ _ _ => exact (no1 hf).elim
  obtain ⟨rfl, ea2⟩ := f2
  obtain ⟨p2, j2, m2, t2⟩ := got_of hL (by rw [l1]; exact hn) i1 g2
  have hp2 := t2.page; have hj2 := t2.num; have ha2 := addr4 t2
  rw [s4] at hj2
  have ep2 : p2 = 0 := by omega
  have ej2 : j2 = 1 := by omega
  subst ep2; subst ej2
  have em2 : m2 = 1 := by
    rcases t2.was with ⟨_, h, _⟩ | ⟨h, _⟩
    · omega
    · omega
  subst em2
  have v2 : VOK L w.length u2 := ⟨hL, by rw [l2, l1], v0.all⟩
  have k2 : kw L u2 0 = 5 := t2.kind
  have b2 : bw L u2 0 = ((3 : Nat) : Int) := t2.bits
  have c2 : cw L u2 0 = 0 := t2.left
  obtain ⟨ok2, oc2, ob2⟩ := t2.other 1 (by omega) (by omega) (by omega)
  obtain ⟨a3, b3, u3, e3, g3⟩ := pGrab_eq v2 i2 4
  obtain ⟨l3, inn3, ls3, i3⟩ := g3.inv hL (by rw [l2, l1]; exact hn) i2
  have f3 : b3 = true ∧ a3 = L.at_10 + 32 := by
    cases g3 with
    | no h =>
      rcases h with h | ⟨_, h⟩
      · omega
      · exact (h 1 (by omega) (by omega) (by omega)).elim
    | @old p m i hc hp hf hb hi h0 =>
      rcases first_cls i2 hc hf with ⟨e, _⟩ | ⟨hp, ⟨m', f⟩, h1, _⟩
      · omega
      · have hk := f.kind
        have h : p = 0 ∨ p = 1 := by omega
        rcases h with h | h <;> subst h <;> omega
    | @new p u hc hf hr hp ht =>
      rcases find_free hr with ⟨h, _⟩ | ⟨hp', hk⟩
      · omega
      · have h : p = 0 ∨ p = 1 := by omega
        rcases h with h | h
        · subst h; omega
        · subst h; exact ⟨rfl, by omega⟩
  obtain ⟨rfl, ea3⟩ := f3
  obtain ⟨p3, j3, m3, t3⟩ := got_of hL (by rw [l2, l1]; exact hn) i2 g3
  have hp3 := t3.page; have hj3 := t3.num; have ha3 := addr4 t3
  rw [s4] at hj3
  have ep3 : p3 = 1 := by omega
  have ej3 : j3 = 0 := by omega
  subst ep3; subst ej3
  have em3 : m3 = 0 := by
    rcases t3.was with ⟨h, _⟩ | ⟨_, _, _, h⟩
    · omega
    · exact h
  subst em3
  have v3 : VOK L w.length u3 := ⟨hL, by rw [l3, l2, l1], v0.all⟩
  have k3 : kw L u3 1 = 5 := t3.kind
  have b3 : bw L u3 1 = ((1 : Nat) : Int) := t3.bits
  obtain ⟨ok3, oc3, ob3⟩ := t3.other 0 (by omega) (by omega) (by omega)
  have hfree : freeN L u3 4 L.c.Pages.toNat = 1 := by
    rw [hP]
    show freeN L u3 4 2 = 1
    simp only [freeN]
    rw [if_pos ⟨by omega, show kw L u3 ((0 : Nat) : Int) = 4 + 1 by have : kw L u3 ((0 : Nat) : Int) = kw L u3 0 := rfl; omega⟩, if_pos ⟨by omega, show kw L u3 ((1 : Nat) : Int) = 4 + 1 from k3⟩]
    have h0 : bw L u3 ((0 : Nat) : Int) = ((3 : Nat) : Int) := by have : bw L u3 ((0 : Nat) : Int) = bw L u3 0 := rfl; omega
    have h1 : bw L u3 ((1 : Nat) : Int) = ((1 : Nat) : Int) := b3
    rw [h0, h1, s4]
    decide
  have hrun : y2p w.length w L 0 0 0 0 = some (u3, a1, a2, a3, 1) := by
    unfold y2p
    have r0 : y3b w.length L 0 w 0 0 0 0 = some (.inl (1, u1, a1, 0, 0, 0)) := by
      simp only [y3b]
      rw [e1]; rfl
    have r1 : y3b w.length L 1 u1 a1 0 0 0 = some (.inl (2, u2, a1, a2, 0, 0)) := by
      simp only [y3b]
      rw [e2]; rfl
    have r2 : y3b w.length L 2 u2 a1 a2 0 0 = some (.inl (3, u3, a1, a2, a3, 0)) := by
      simp only [y3b]
      rw [e3]; rfl
    have r3 : y3b w.length L 3 u3 a1 a2 a3 0 = some (.inr (u3, a1, a2, a3, 1)) := by
      simp only [y3b]
      rw [pFree_eq v3 i3, hfree]; rfl
    exact (loopO_go r0).trans ((loopO_go r1).trans ((loopO_go r2).trans (loopO_end r3)))
  rw [hrun, Option.bind_some]
  simp only [beq_self_eq_true, cond_true, User_eq, Option.bind_some]
  rw [wrap_id (x := a1 + 16) (by omega) (by omega), wrap_id (x := a1 + 32) (by omega) (by omega), beq_iff_eq.2 ea1, beq_iff_eq.2 (show a2 = a1 + 16 by omega), beq_iff_eq.2 (show a3 = a1 + 32 by omega)]
  rfl
theorem after11_eq (c : yb) {acts : List (List Int)} (hl : acts.length ≤ 1000) : ∃ L w b, y0k c acts = some (L, w, b, true) ∧ VOK L w.length w ∧ w.length ≤ 40000 ∧ ∃ inn ls, Inv11 L w inn ls := by
  unfold y0k
  obtain ⟨d, hR, hB⟩ := Begin_eq c
  have hL := layC_ok hR
  have hw := hL.words11
  have hlen : (List.replicate (layC d).at_11.toNat (0 : Int)).length = (layC d).at_11.toNat := by simp
  rw [hB, Option.bind_some]
  simp only
  rw [Nat.ble_eq_true_of_le (by rw [hlen]; omega), cond_true]
  obtain ⟨u, b, h1, h2, h3⟩ := after111_eq hR (rep_VOK hL) (Inv11.start hL) hl
  rw [h1, Option.bind_some]
  have hl2 := h2.len
  simp only
  rw [hl2, beq_self_eq_true]
  refine ⟨_, _, _, rfl, ?_, by rw [hl2, hlen]; omega, h3⟩
  rw [← hl2] at h2; exact h2
theorem PagesBack_main (c : yb) (q : Int) (acts : List (List Int)) : y42 c q acts = some true := by
  unfold y42
  by_cases hl : (acts.length : Int) > 60
  · rw [decide_eq_true hl, cond_true, lives11_eq]; rfl
  rw [decide_eq_false hl, cond_false]
  obtain ⟨L, w, b, h1, v, hwl, inn, ls, i⟩ := after11_eq c (acts := acts) (by omega)
  have g := v.lay.geo11; have ha := v.all; have hpg := v.lay.pages
  have hn : L.at_11 ≤ (w.length : Int) := v.all
  rw [h1, Option.bind_some]
  simp only
  rw [Nat.ble_eq_true_of_le (by omega), cond_true]
  have key : ∃ u, y0n w.length w L q false = some (u, true) ∧ u.length = w.length ∧ ∀ p, 0 ≤ p → p < L.c.Pages → kw L u p = kw L w p ∧ cw L u p = cw L w p ∧ bw L u p = bw L w p := by
    unfold y0n
    obtain ⟨a, bb, x, e1, s1⟩ := pGrab_eq v i q
    obtain ⟨l1, inn1, ls1, i1⟩ := s1.inv v.lay hn i
    have v1 : VOK L w.length x := ⟨v.lay, l1, v.all⟩
    rw [pFree_eq v i, Option.bind_some, e1, Option.bind_some]
    simp only
    obtain ⟨b2, y, e2, s2⟩ := pReturn_eq v1 i1 a
    cases bb with
    | false =>
      rw [Bool.not_false, cond_true, e2, Option.bind_some]
      cases s1 with
      | no _ =>
        have hno : ∀ p c m j, ¬ Tk L w 0 p c m j := fun p c m j t => by have := t.user; omega
        cases s2 with
        | no _ => exact ⟨_, rfl, rfl, fun p _ _ => ⟨rfl, rfl, rfl⟩⟩
        | yes t => exact (hno _ _ _ _ t).elim
    | true =>
      obtain ⟨p, j, m, t⟩ := got_of v.lay hn i s1
      obtain ⟨eb, hall, hno⟩ := t.back v.lay (by rw [l1]; exact hn) i1 s2
      subst eb
      obtain ⟨l2, inn2, ls2, i2⟩ := s2.inv v.lay (by rw [l1]; exact hn) i1
      have v2 : VOK L w.length y := ⟨v.lay, by rw [l2, l1], v.all⟩
      rw [Bool.not_true, cond_false, e2, Option.bind_some, cond_true]
      obtain ⟨b3, z, e3, s3⟩ := pReturn_eq v2 i2 a
      rw [e3, Option.bind_some]
      cases s3 with
      | yes t => exact (hno _ _ _ _ t).elim
      | no _ =>
        rw [Bool.not_false, cond_true, pFree_eq v2 i2, Option.bind_some]
        have ef : freeN L y q L.c.Pages.toNat = freeN L w q L.c.Pages.toNat := freeN_congr (fun p h0 h1 => by
          obtain ⟨a1, _, a3⟩ := hall p h0 (by omega)
          exact ⟨a1, a3⟩)
        rw [ef, beq_self_eq_true]
        exact ⟨_, rfl, by rw [l2, l1], hall⟩
  obtain ⟨u, k1, k2, k3⟩ := key
  rw [k1, Option.bind_some]
  simp only [Bool.not_true, cond_false]
  rw [k2, bne_self_eq_false, cond_false]
  obtain ⟨r, h2, rfl⟩ := loopO_ind (step := fun s : Int => y4j L w true u s)
    (I := fun s => 0 ≤ s ∧ s ≤ L.c.Pages) (μ := fun s => (L.c.Pages - s).toNat) (fun r => r = true) (by
      rintro p ⟨p0, p1⟩
      have ec : (cOf L).Pages = L.c.Pages := rfl
      simp only [y4j, Config_eq, Option.bind_some, ec]
      by_cases cc : p < L.c.Pages
      · obtain ⟨a1, a2, a3⟩ := k3 p p0 cc
        obtain ⟨r1, r2, r3⟩ := page_at v ⟨p0, cc⟩
        have o1 : offs (L.at_1 + p) 0 = L.at_1 + p := offs_nn (by omega)
        have o2 : offs (L.at_2 + p) 0 = L.at_2 + p := offs_nn (by omega)
        have o3 : offs (L.at_3 + p) 0 = L.at_3 + p := offs_nn (by omega)
        have e1 : u.getD (L.at_1 + p).toNat 0 = w.getD (L.at_1 + p).toNat 0 := a1
        have e2 : u.getD (L.at_2 + p).toNat 0 = w.getD (L.at_2 + p).toNat 0 := a2
        have e3 : u.getD (L.at_3 + p).toNat 0 = w.getD (L.at_3 + p).toNat 0 := a3
        rw [decide_eq_true cc, cond_true, wrap_id (x := p + 1) (by omega) (by omega)]
        simp only [Kind_eq v.lay, Count_eq v.lay, Bits_eq v.lay, Option.bind_some, lPg_in ⟨p0, cc⟩, k2, o1, o2, o3, r1, r2, r3, cond_true, e1, e2, e3, bne_self_eq_false, cond_false]
        exact .inl ⟨_, rfl, ⟨by omega, by omega⟩, by omega⟩
      · rw [decide_eq_false cc, cond_false, cond_true, lives11_eq]
        exact .inr ⟨_, rfl, rfl⟩) 0 ⟨by omega, by omega⟩
  exact h2
structure Least11 (L : ya) (w : List Int) (q : Int) (p : Int) (least : Int) (open_ : Bool) : Prop where
  free : open_ = true ↔ ∃ k, 0 ≤ k ∧ k < p ∧ kw L w k = 0
  least : (least = 0 ∧ ∀ k, 0 ≤ k → k < p → (0 ≤ q ∧ q < 5) → kw L w k = q + 1 → cw L w k = 0) ∨
    (0 < least ∧ (0 ≤ q ∧ q < 5) ∧ (∃ k, 0 ≤ k ∧ k < p ∧ kw L w k = q + 1 ∧ cw L w k = least) ∧ ∀ k, 0 ≤ k → k < p → kw L w k = q + 1 → cw L w k = 0 ∨ least ≤ cw L w k)
section
variable {L : ya} {w inn : List Int} {ls : Int → Int → List Int}
end
end Go.Rx
end
