/- What the row's text of this claim stands on, part 5: the symbolic executor, contracts of the program's functions, plain facts. No condition. -/
import Derived.Test.YtoejhbeppjagnaaGreatK11fD
noncomputable section
namespace Go.Rx
open Go.Proofs
set_option maxRecDepth 100000
set_option maxHeartbeats 4000000
theorem yhl {cs : List V} {k : ya → List V → Prop} (h : yr (List.take 23 cs) fun x => aRest (List.drop 23 cs) fun r => k x r) : ∃ x r, cs = yc x ++ r ∧ k x r := by
  obtain ⟨x, e, h⟩ := y5m h
  exact ⟨x, _, by rw [← e, List.take_append_drop], h⟩
instance (cs : List V) (k : ya → List V → Prop) : Des (yr (List.take 23 cs) fun x => aRest (List.drop 23 cs) fun r => k x r) (∃ x r, cs = yc x ++ r ∧ k x r) := ⟨yhl⟩
def y7j (m_ : Y3) (args : List V) (H : Heap) (K : V → Heap → Prop) : Prop :=
  aC args fun a0 r => aN r <| aAgg a0 fun c0 => aC c0 fun a0_0 r => aPtr 0 a0_0 <| yr (List.take 23 r) fun x_l => aRest (List.drop 23 r) fun r => aC r fun a0_24 r => aInt a0_24 fun x_p => aC r fun a0_25 r => aInt a0_25 fun x_c => aN r <| aC H fun b0 r => aC r fun b1 r => aN r <| bView 1 b0 fun ws cur xs => bRow 0 true b1 fun (l : List Int) => ws = l ∧ xs.length ≤ 2 ∧ So (m_ ws.length cur x_l x_p x_c) fun x => K (vi x) [.pk 0 [ws, cur] xs [.row 1], .row 0 l true]
def y5u (m_ : Y3) : Spec := ⟨y7j m_, (true : Bool)⟩
def y72 (m_ : Y3) (args : List V) (H : Heap) (K : V → Heap → Prop) : Prop :=
  aC args fun a0 r => aN r <| aAgg a0 fun c0 => aC c0 fun a0_0 r => aPtr 0 a0_0 <| yr (List.take 23 r) fun x_l => aRest (List.drop 23 r) fun r => aC r fun a0_24 r => aInt a0_24 fun x_p => aC r fun a0_25 r => aInt a0_25 fun x_c => aN r <| aC H fun b0 r => aC r fun b1 r => aN r <| bView 1 b0 fun ws cur xs => bRow 0 true b1 fun (l : List Int) => ws = l ∧ xs.length ≤ 2 ∧ So (m_ ws.length cur x_l x_p x_c) fun x => K (vi x) [.pk 0 [ws, cur] xs [.row 1], .row 0 l true]
def y67 (m_ : Y3) : Spec := ⟨y72 m_, (true : Bool)⟩
abbrev Y8 := Nat → (List Int) → Int → Int → Int → Int → Int → Int → Int → Int → Int → Int → Int → Int → Int → Int → Int → Int → Int → Int → Int → Int → Int → Int → Int → Int → Int → Int → Option (List Int)
def y4w (m_ : Y8) (args : List V) (H : Heap) (K : V → Heap → Prop) : Prop :=
  aC args fun a0 r => aC r fun a1 r => aN r <| aPtr 0 a0 <| aPtr 1 a1 <| aC H fun b0 r => aC r fun b1 r => aC r fun b2 r => aC r fun b3 r => aN r <| bCells b0 fun U c0 => aC c0 fun d0_0 r => aPtr 2 d0_0 <| aC r fun d0_1 r => aInt d0_1 fun x_l_c_Workers => aC r fun d0_2 r => aInt d0_2 fun x_l_c_CPUs => aC r fun d0_3 r => aInt d0_3 fun x_l_c_Pages => aC r fun d0_4 r => aInt d0_4 fun x_l_c_Stripes => aC r fun d0_5 r => aInt d0_5 fun x_l_c_Tries => aC r fun d0_6 r => aInt d0_6 fun x_l_c_Wait => aC r fun d0_7 r => aInt d0_7 fun x_l_c_Clock => aC r fun d0_8 r => aInt d0_8 fun x_l_c_Private => aC r fun d0_9 r => aInt d0_9 fun x_l_c_Cache => aC r fun d0_10 r => aInt d0_10 fun x_l_c_Bin => aC r fun d0_11 r => aInt d0_11 fun x_l_c_Batch => aC r fun d0_12 r => aInt d0_12 fun x_l_at_0 => aC r fun d0_13 r => aInt d0_13 fun x_l_at_1 => aC r fun d0_14 r => aInt d0_14 fun x_l_at_2 => aC r fun d0_15 r => aInt d0_15 fun x_l_at_3 => aC r fun d0_16 r => aInt d0_16 fun x_l_at_4 => aC r fun d0_17 r => aInt d0_17 fun x_l_at_5 => aC r fun d0_18 r => aInt d0_18 fun x_l_at_6 => aC r fun d0_19 r => aInt d0_19 fun x_l_at_7 => aC r fun d0_20 r => aInt d0_20 fun x_l_at_8 => aC r fun d0_21 r => aInt d0_21 fun x_l_at_9 => aC r fun d0_22 r => aInt d0_22 fun x_l_at_10 => aC r fun d0_23 r => aInt d0_23 fun x_l_at_11 => aC r fun d0_24 r => aInt d0_24 fun x_p => aC r fun d0_25 r => aInt d0_25 fun x_c => aN r <| bCells b1 fun U2 c1 => aC c1 fun d1_0 r => aInt d1_0 fun left => aN r <| bView 3 b2 fun ws cur xs => bRow 0 true b3 fun (l : List Int) => ws = l ∧ xs.length ≤ 2 ∧ So (m_ ws.length cur x_l_c_Workers x_l_c_CPUs x_l_c_Pages x_l_c_Stripes x_l_c_Tries x_l_c_Wait x_l_c_Clock x_l_c_Private x_l_c_Cache x_l_c_Bin x_l_c_Batch x_l_at_0 x_l_at_1 x_l_at_2 x_l_at_3 x_l_at_4 x_l_at_5 x_l_at_6 x_l_at_7 x_l_at_8 x_l_at_9 x_l_at_10 x_l_at_11 x_p x_c left) fun x => K (.tup []) [.cells U [.ptr 2 0, vi x_l_c_Workers, vi x_l_c_CPUs, vi x_l_c_Pages, vi x_l_c_Stripes, vi x_l_c_Tries, vi x_l_c_Wait, vi x_l_c_Clock, vi x_l_c_Private, vi x_l_c_Cache, vi x_l_c_Bin, vi x_l_c_Batch, vi x_l_at_0, vi x_l_at_1, vi x_l_at_2, vi x_l_at_3, vi x_l_at_4, vi x_l_at_5, vi x_l_at_6, vi x_l_at_7, vi x_l_at_8, vi x_l_at_9, vi x_l_at_10, vi x_l_at_11, vi x_p, vi x_c], .cells U2 [vi left], .pk 0 [ws, x] xs [.row 3], .row 0 l true]
def y6a (m_ : Y8) : Spec := ⟨y4w m_, (true : Bool)⟩
abbrev Y16 := Nat → (List Int) → ya → Int → Int → Int → Int → Option (List Int)
def y6r (m_ : Y16) (args : List V) (H : Heap) (K : V → Heap → Prop) : Prop :=
  aC args fun a0 r => aC r fun a1 r => aC r fun a2 r => aN r <| aAgg a0 fun c0 => aC c0 fun a0_0 r => aPtr 0 a0_0 <| yr (List.take 23 r) fun x_l => aRest (List.drop 23 r) fun r => aC r fun a0_24 r => aInt a0_24 fun x_p => aC r fun a0_25 r => aInt a0_25 fun x_c => aN r <| aInt a1 fun bits => aInt a2 fun left => aC H fun b0 r => aC r fun b1 r => aN r <| bView 1 b0 fun ws cur xs => bRow 0 true b1 fun (l : List Int) => ws = l ∧ xs.length ≤ 2 ∧ So (m_ ws.length cur x_l x_p x_c bits left) fun x => K (.tup []) [.pk 0 [ws, x] xs [.row 1], .row 0 l true]
def y9g (m_ : Y16) : Spec := ⟨y6r m_, (true : Bool)⟩
abbrev Y25 := Nat → (List Int) → ya → Int → Option (ya × Int × Int × Bool × (List Int))
def ya0 (m_ : Y25) (args : List V) (H : Heap) (K : V → Heap → Prop) : Prop :=
  aC args fun a0 r => aC r fun a1 r => aC r fun a2 r => aN r <| aPtr 0 a0 <| aAgg a1 fun c1 => yr c1 fun l2 => aInt a2 fun c => aC H fun b0 r => aC r fun b1 r => aN r <| bView 1 b0 fun ws cur xs => bRow 0 true b1 fun (l : List Int) => ws = l ∧ xs.length ≤ 2 ∧ So (m_ ws.length cur l2 c) fun x => br x.2.2.2.1 (K (.tup [.agg ([.ptr 0 0] ++ yc x.1 ++ [vi x.2.1, vi x.2.2.1]), vb true]) [.pk 0 [ws, x.2.2.2.2] xs [.row 1], .row 0 l true]) (K (.tup [.agg ([.ext (.pointer none)] ++ yc x.1 ++ [vi x.2.1, vi x.2.2.1]), vb false]) [.pk 0 [ws, x.2.2.2.2] xs [.row 1], .row 0 l true])
def yev (m_ : Y25) : Spec := ⟨ya0 m_, (true : Bool)⟩
abbrev Y10 := Nat → (List Int) → ya → Int → Option (Int × Bool × (List Int))
def y7u (m_ : Y10) (args : List V) (H : Heap) (K : V → Heap → Prop) : Prop :=
  aC args fun a0 r => aC r fun a1 r => aC r fun a2 r => aN r <| aPtr 0 a0 <| aAgg a1 fun c1 => yr c1 fun l2 => aInt a2 fun c => aC H fun b0 r => aC r fun b1 r => aN r <| bView 1 b0 fun ws cur xs => bRow 0 true b1 fun (l : List Int) => ws = l ∧ xs.length ≤ 2 ∧ So (m_ ws.length cur l2 c) fun x => K (.tup [vi x.1, vb x.2.1]) [.pk 0 [ws, x.2.2] xs [.row 1], .row 0 l true]
def y5o (m_ : Y10) : Spec := ⟨y7u m_, (true : Bool)⟩
def yaj (m_ : Y15) (args : List V) (H : Heap) (K : V → Heap → Prop) : Prop :=
  aC args fun a0 r => aC r fun a1 r => aC r fun a2 r => aN r <| aPtr 0 a0 <| aAgg a1 fun c1 => yr c1 fun l2 => aInt a2 fun c => aC H fun b0 r => aC r fun b1 r => aN r <| bView 1 b0 fun ws cur xs => bRow 0 true b1 fun (l : List Int) => ws = l ∧ xs.length ≤ 2 ∧ So (m_ ws.length cur l2 c) fun x => K (vb x) [.pk 0 [ws, cur] xs [.row 1], .row 0 l true]
def y8b (m_ : Y15) : Spec := ⟨yaj m_, (true : Bool)⟩
abbrev Y17 := Nat → (List Int) → ya → Int → Option (ya × Int × Int × Int × Bool)
def y6f (m_ : Y17) (args : List V) (H : Heap) (K : V → Heap → Prop) : Prop :=
  aC args fun a0 r => aC r fun a1 r => aC r fun a2 r => aN r <| aPtr 0 a0 <| aAgg a1 fun c1 => yr c1 fun l2 => aInt a2 fun a => aC H fun b0 r => aC r fun b1 r => aN r <| bView 1 b0 fun ws cur xs => bRow 0 true b1 fun (l : List Int) => ws = l ∧ xs.length ≤ 2 ∧ So (m_ ws.length cur l2 a) fun x => br x.2.2.2.2 (K (.tup [.agg ([.ptr 0 0] ++ yc x.1 ++ [vi x.2.1, vi x.2.2.1]), vi x.2.2.2.1, vb true]) [.pk 0 [ws, cur] xs [.row 1], .row 0 l true]) (K (.tup [.agg ([.ext (.pointer none)] ++ yc x.1 ++ [vi x.2.1, vi x.2.2.1]), vi x.2.2.2.1, vb false]) [.pk 0 [ws, cur] xs [.row 1], .row 0 l true])
def y7s (m_ : Y17) : Spec := ⟨y6f m_, (true : Bool)⟩
def y73 (m_ : Y12) (args : List V) (H : Heap) (K : V → Heap → Prop) : Prop :=
  aC args fun a0 r => aC r fun a1 r => aC r fun a2 r => aN r <| aPtr 0 a0 <| aAgg a1 fun c1 => yr c1 fun l2 => aInt a2 fun a => aC H fun b0 r => aC r fun b1 r => aN r <| bView 1 b0 fun ws cur xs => bRow 0 true b1 fun (l : List Int) => ws = l ∧ xs.length ≤ 2 ∧ So (m_ ws.length cur l2 a) fun x => K (vb x.1) [.pk 0 [ws, x.2] xs [.row 1], .row 0 l true]
def ydc (m_ : Y12) : Spec := ⟨y73 m_, (true : Bool)⟩
abbrev Y34 := Nat → (List Int) → ya → Int → Option (Int × Bool)
def y6g (m_ : Y34) (args : List V) (H : Heap) (K : V → Heap → Prop) : Prop :=
  aC args fun a0 r => aC r fun a1 r => aC r fun a2 r => aN r <| aPtr 0 a0 <| aAgg a1 fun c1 => yr c1 fun l2 => aInt a2 fun a => aC H fun b0 r => aC r fun b1 r => aN r <| bView 1 b0 fun ws cur xs => bRow 0 true b1 fun (l : List Int) => ws = l ∧ xs.length ≤ 2 ∧ So (m_ ws.length cur l2 a) fun x => K (.tup [vi x.1, vb x.2]) [.pk 0 [ws, cur] xs [.row 1], .row 0 l true]
def yck (m_ : Y34) : Spec := ⟨y6g m_, (true : Bool)⟩
def y79 (m_ : Y0) (args : List V) (H : Heap) (K : V → Heap → Prop) : Prop :=
  aC args fun a0 r => aC r fun a1 r => aC r fun a2 r => aN r <| aPtr 0 a0 <| aAgg a1 fun c1 => yr c1 fun l2 => aInt a2 fun c => aC H fun b0 r => aC r fun b1 r => aN r <| bView 1 b0 fun ws cur xs => bRow 0 true b1 fun (l : List Int) => ws = l ∧ xs.length ≤ 2 ∧ So (m_ ws.length cur l2 c) fun x => K (vi x) [.pk 0 [ws, cur] xs [.row 1], .row 0 l true]
def y83 (m_ : Y0) : Spec := ⟨y79 m_, (true : Bool)⟩
def yb2 (y08 : Y1) : Cfg := { cfgB with
  sigs := (sigC 31 (y5d y08) (sigC 63 rdS sigN)),
  plan := fun r => match r with | 1 => some (List.range 9, 16) | _ => none }
def ybr (yn : Y1) : Cfg := { cfgB with
  sigs := (sigC 22 (y4q yn) (sigC 63 rdS sigN)),
  plan := fun r => match r with | 1 => some (List.range 9, 16) | _ => none }
def y8t (y1p : Y7) : Cfg := { cfgB with
  sigs := (sigC 100 (ycx y1p) sigN) }
def yb6 (y0g : Y3) (y2l : Y7) (yh : Y4) (y1y : Y30) (y1t : Y8) (yn y08 : Y1) : Cfg := { cfgB with
  sigs := (sigC 58 (y5u y0g) (sigC 97 (yct y2l) (sigC 20 (y4h yh) (sigC 98 (ydb y1y) (sigC 99 (y6a y1t) (sigC 22 (y4q yn) (sigC 96 wrS (sigC 31 (y5d y08) sigN)))))))),
  plan := fun r => match r with | 1 => some (List.range 11, 24189255811088) | 2 => some (List.range 5, 0) | 5 => some ([0, 1, 2, 3, 4, 5, 7, 6, 8], 19791209299984) | 6 => some ([0, 1, 2, 3, 4, 5, 7, 6, 8], 19791209299984) | _ => none }
def yex (yl : Y4) (y1i : Y0) (y2b : Y3) (y1r : Y7) (y08 : Y1) (yh : Y4) : Cfg := { cfgB with
  sigs := (sigC 19 (y4j yl) (sigC 52 (y9n y1i) (sigC 94 (yba y2b) (sigC 95 (yem y1r) (sigC 31 (y5d y08) (sigC 20 (y4h yh) (sigC 96 wrS sigN))))))) }
def yf6 (y1j : Y25) (y0e : Y3) (yh : Y4) (y3h y2n : Y14) (y0g : Y3) (y1b : Y16) (y2k : Y1) (yl : Y4) : Cfg := { cfgB with
  sigs := (sigC 53 (yev y1j) (sigC 55 (y67 y0e) (sigC 20 (y4h yh) (sigC 54 (yam y3h) (sigC 57 (ycy y2n) (sigC 58 (y5u y0g) (sigC 56 (y9g y1b) (sigC 59 (yec y2k) (sigC 19 (y4j yl) sigN))))))))),
  plan := fun r => match r with | 5 => some ([0, 1, 3, 5, 2, 4, 6, 7, 8], 16) | _ => none }
def ycd (y1i : Y0) : Cfg := { cfgB with
  sigs := (sigC 52 (y9n y1i) sigN) }
def yda (y06 : Y28) (ye : Y0) (yl : Y4) (y0e : Y3) (y05 : Y37) : Cfg := { cfgB with
  sigs := (sigC 26 (y80 y06) (sigC 62 (y3w ye) (sigC 19 (y4j yl) (sigC 55 (y67 y0e) (sigC 27 (y6e y05) sigN))))),
  plan := fun r => match r with | 6 => some ([0, 1, 2, 3, 4, 5, 6, 7, 8, 9, 11, 12, 13, 10, 14, 15, 16], 16) | 8 => some (List.range 7, 144) | _ => none,
  planT := fun r => match r with | 4 => some ((chainT [0, 1, 2, 3, 4, 5] (.alt (chainT [6, 7, 8, 9, 10] .fin) (chainT [9, 6, 7, 8, 10] .fin))), 8208) | _ => none,
  flag := fun d => Nat.beq d 6 || Nat.beq d 12 }
def yd3 (y0w : Y17) (y0e : Y3) (y1w : Y14) (y0g : Y3) (y1b : Y16) : Cfg := { cfgB with
  sigs := (sigC 64 (y7s y0w) (sigC 55 (y67 y0e) (sigC 65 (yc5 y1w) (sigC 58 (y5u y0g) (sigC 56 (y9g y1b) sigN))))),
  plan := fun r => match r with | 3 => some ([0, 1, 3, 5, 2, 4, 6, 7, 8], 16) | _ => none }
def yed (y0w : Y17) : Cfg := { cfgB with
  sigs := (sigC 64 (y7s y0w) sigN) }
def y2w (yi : Y22) (yl : Y4) (ye : Y0) (yh : Y4) (yn : Y1) (yu : Y14) : Cfg := { cfgB with
  sigs := (sigC 17 (y3q yi) (sigC 19 (y4j yl) (sigC 62 (y3w ye) (sigC 20 (y4h yh) (sigC 22 (y4q yn) (sigC 63 rdS (sigC 21 (y6h yu) sigN))))))),
  keep := fun r => match r with | 3 => some [(0, none), (2, none), (4, none), (7, none), (11, none), (12, none)] | _ => none,
  plan := fun r => match r with | 6 => some ([0, 1, 3, 4, 5, 8, 2, 6, 7, 9, 10, 11, 12, 13], 16) | _ => none }
theorem yfo (y08 : Y1) (ws cur : List Int) (xs : List Value) (x_l : ya) (x_p x_c : Int) (K : V → Heap → Prop) : (exF (yb2 y08) Tryz.f58 [.agg ([.ptr 0 0] ++ yc x_l ++ [vi x_p, vi x_c])] (hV ws cur xs) K) = (
    So (y08 x_l x_p) (fun (y0 : Int) => ((ws = ws) ∧ ((xs.length ≤ 2) ∧ (Req (inR y0 ws.length) (K (vi (rd cur y0)) (hV ws cur xs))))))) := by kernel_rfl
theorem yi5 (yn : Y1) (ws cur : List Int) (xs : List Value) (x_l : ya) (x_p x_c : Int) (K : V → Heap → Prop) : (exF (ybr yn) Tryz.f55 [.agg ([.ptr 0 0] ++ yc x_l ++ [vi x_p, vi x_c])] (hV ws cur xs) K) = (
    So (yn x_l x_p) (fun (y0 : Int) => ((ws = ws) ∧ ((xs.length ≤ 2) ∧ (Req (inR y0 ws.length) (K (vi (rd cur y0)) (hV ws cur xs))))))) := by kernel_rfl
theorem ydu (y1p : Y7) (ws cur : List Int) (xs : List Value) (x_l_c_Workers x_l_c_CPUs : Int) (x_l_c_Pages x_l_c_Stripes : Int) (x_l_c_Tries x_l_c_Wait : Int) (x_l_c_Clock x_l_c_Private : Int) (x_l_c_Cache x_l_c_Bin : Int) (x_l_c_Batch x_l_at_0 : Int) (x_l_at_1 x_l_at_2 : Int) (x_l_at_3 x_l_at_4 : Int) (x_l_at_5 x_l_at_6 : Int) (x_l_at_7 x_l_at_8 : Int) (x_l_at_9 x_l_at_10 : Int) (x_l_at_11 x_p : Int) (x_c left : Int) (U U2 : TypeId) (K : V → Heap → Prop) : (exF (y8t y1p) Tryz.f99 [.ptr 0 0, .ptr 1 0] [.cells U [.ptr 2 0, vi x_l_c_Workers, vi x_l_c_CPUs, vi x_l_c_Pages, vi x_l_c_Stripes, vi x_l_c_Tries, vi x_l_c_Wait, vi x_l_c_Clock, vi x_l_c_Private, vi x_l_c_Cache, vi x_l_c_Bin, vi x_l_c_Batch, vi x_l_at_0, vi x_l_at_1, vi x_l_at_2, vi x_l_at_3, vi x_l_at_4, vi x_l_at_5, vi x_l_at_6, vi x_l_at_7, vi x_l_at_8, vi x_l_at_9, vi x_l_at_10, vi x_l_at_11, vi x_p, vi x_c], .cells U2 [vi left], .pk 0 [ws, cur] xs [.row 3], .row 0 ws true] K) = (
    ((ws = ws) ∧ ((xs.length ≤ 2) ∧ (So (y1p ws.length cur (ya.mk (yb.mk x_l_c_Workers x_l_c_CPUs x_l_c_Pages x_l_c_Stripes x_l_c_Tries x_l_c_Wait x_l_c_Clock x_l_c_Private x_l_c_Cache x_l_c_Bin x_l_c_Batch) x_l_at_0 x_l_at_1 x_l_at_2 x_l_at_3 x_l_at_4 x_l_at_5 x_l_at_6 x_l_at_7 x_l_at_8 x_l_at_9 x_l_at_10 x_l_at_11) x_p x_c left) (fun (y0 : Bool × List Int) => (K (.tup []) [.cells U [.ptr 2 0, vi x_l_c_Workers, vi x_l_c_CPUs, vi x_l_c_Pages, vi x_l_c_Stripes, vi x_l_c_Tries, vi x_l_c_Wait, vi x_l_c_Clock, vi x_l_c_Private, vi x_l_c_Cache, vi x_l_c_Bin, vi x_l_c_Batch, vi x_l_at_0, vi x_l_at_1, vi x_l_at_2, vi x_l_at_3, vi x_l_at_4, vi x_l_at_5, vi x_l_at_6, vi x_l_at_7, vi x_l_at_8, vi x_l_at_9, vi x_l_at_10, vi x_l_at_11, vi x_p, vi x_c], .cells U2 [vi left], .pk 0 [ws, y0.2] xs [.row 3], .row 0 ws true])))))) := by kernel_rfl
theorem yh5 (y0g : Y3) (y2l : Y7) (yh : Y4) (y1y : Y30) (y1t : Y8) (yn y08 : Y1) (ws cur : List Int) (xs : List Value) (x_l : ya) (x_p x_c : Int) (bits left : Int) (K : V → Heap → Prop) : (exFH (yb6 y0g y2l yh y1y y1t yn y08) (sdC 99 (y6a y1t)) Tryz.f56 [.agg ([.ptr 0 0] ++ yc x_l ++ [vi x_p, vi x_c]), vi bits, vi left] (hV ws cur xs) K) = (
    ((ws = ws) ∧ ((xs.length ≤ 2) ∧ (So (y0g ws.length cur x_l x_p x_c) (fun (y0 : Int) => ((ws = ws) ∧ ((xs.length ≤ 2) ∧ (So (y2l ws.length cur x_l x_p x_c y0) (fun (y1 : Bool × List Int) => (So (yh x_c) (fun (y2 : Int) => (br (left == y2) ((ws = ws) ∧ ((xs.length ≤ 2) ∧ (So (y1y ws.length y1.2 x_l x_p) (fun (y3 : Int × List Int) => (K (.tup []) (hV ws y3.2 xs)))))) (So (yn x_l x_p) (fun (y4 : Int) => ((ws = ws) ∧ ((xs.length ≤ 2) ∧ (Req (inR y4 ws.length) (So (y08 x_l x_p) (fun (y5 : Int) => ((ws = ws) ∧ ((xs.length ≤ 2) ∧ (Req (inR y5 ws.length) ((ws = ws) ∧ ((xs.length ≤ 2) ∧ (So (y1t ws.length (wr (wr y1.2 y4 bits) y5 left) x_l.c.Workers x_l.c.CPUs x_l.c.Pages x_l.c.Stripes x_l.c.Tries x_l.c.Wait x_l.c.Clock x_l.c.Private x_l.c.Cache x_l.c.Bin x_l.c.Batch x_l.at_0 x_l.at_1 x_l.at_2 x_l.at_3 x_l.at_4 x_l.at_5 x_l.at_6 x_l.at_7 x_l.at_8 x_l.at_9 x_l.at_10 x_l.at_11 x_p x_c left) (fun (y6 : List Int) => (K (.tup []) (hV ws y6 xs)))))))))))))))))))))))))))) := by kernel_rfl
theorem yfv (yl : Y4) (y1i : Y0) (y2b : Y3) (y1r : Y7) (y08 : Y1) (yh : Y4) (ws cur : List Int) (xs : List Value) (l2 : ya) (c : Int) (K : V → Heap → Prop) : (exF (yex yl y1i y2b y1r y08 yh) Tryz.f53 [.ptr 0 0, .agg (yc l2), vi c] (hV ws cur xs) K) = (
    So (yl c) (fun (y0 : Int) => (br (y0 == 0) (K (.tup [.agg [.ext (Go.Value.pointer Option.none), vi 0, vi 0, vi 0, vi 0, vi 0, vi 0, vi 0, vi 0, vi 0, vi 0, vi 0, vi 0, vi 0, vi 0, vi 0, vi 0, vi 0, vi 0, vi 0, vi 0, vi 0, vi 0, vi 0, vi 0, vi 0], vb false]) (hV ws cur xs)) ((ws = ws) ∧ ((xs.length ≤ 2) ∧ (So (y1i ws.length cur l2 c) (fun (y1 : Int) => (br (decide (y1 ≥ 0)) (K (.tup [.agg ([.ptr 0 0] ++ yc l2 ++ [vi y1, vi c]), vb true]) (hV ws cur xs)) ((ws = ws) ∧ ((xs.length ≤ 2) ∧ (So (y2b ws.length cur l2 1 1) (fun (y2 : Int) => ((ws = ws) ∧ ((xs.length ≤ 2) ∧ (So (y1r ws.length cur l2 y2 1 (IntKind.i64.wrap (c + 1))) (fun (y3 : Bool × List Int) => (br (!y3.1) (K (.tup [.agg [.ext (Go.Value.pointer Option.none), vi 0, vi 0, vi 0, vi 0, vi 0, vi 0, vi 0, vi 0, vi 0, vi 0, vi 0, vi 0, vi 0, vi 0, vi 0, vi 0, vi 0, vi 0, vi 0, vi 0, vi 0, vi 0, vi 0, vi 0, vi 0], vb false]) (hV ws y3.2 xs)) (So (y08 l2 y2) (fun (y4 : Int) => (So (yh c) (fun (y5 : Int) => ((ws = ws) ∧ ((xs.length ≤ 2) ∧ (Req (inR y4 ws.length) (K (.tup [.agg ([.ptr 0 0] ++ yc l2 ++ [vi y2, vi c]), vb true]) (hV ws (wr y3.2 y4 y5) xs)))))))))))))))))))))))))) := by kernel_rfl
theorem yj7 (y1j : Y25) (y0e : Y3) (yh : Y4) (y3h y2n : Y14) (y0g : Y3) (y1b : Y16) (y2k : Y1) (yl : Y4) (ws cur : List Int) (xs : List Value) (l2 : ya) (c : Int) (K : V → Heap → Prop) : (exF (yf6 y1j y0e yh y3h y2n y0g y1b y2k yl) Tryz.f25 [.ptr 0 0, .agg (yc l2), vi c] (hV ws cur xs) K) = (
    ((ws = ws) ∧ ((xs.length ≤ 2) ∧ (So (y1j ws.length cur l2 c) (fun (y0 : ya × Int × Int × Bool × List Int) => (br y0.2.2.2.1 ((ws = ws) ∧ ((xs.length ≤ 2) ∧ (So (y0e ws.length y0.2.2.2.2 y0.1 y0.2.1 y0.2.2.1) (fun (y1 : Int) => (So (yh c) (fun (y2 : Int) => (So (y3h y1 y2) (fun (y3 : Int) => ((ws = ws) ∧ ((xs.length ≤ 2) ∧ (So (y0e ws.length y0.2.2.2.2 y0.1 y0.2.1 y0.2.2.1) (fun (y4 : Int) => (So (y2n y4 y3) (fun (y5 : Int) => ((ws = ws) ∧ ((xs.length ≤ 2) ∧ (So (y0g ws.length y0.2.2.2.2 y0.1 y0.2.1 y0.2.2.1) (fun (y6 : Int) => ((ws = ws) ∧ ((xs.length ≤ 2) ∧ (So (y1b ws.length y0.2.2.2.2 y0.1 y0.2.1 y0.2.2.1 y5 (IntKind.i64.wrap (y6 - 1))) (fun (y7 : List Int) => (So (y2k l2 y0.2.1) (fun (y8 : Int) => (So (yl c) (fun (y9 : Int) => (K (.tup [vi (IntKind.i64.wrap (y8 + IntKind.i64.wrap (y3 * y9))), vb true]) (hV ws y7 xs)))))))))))))))))))))))))))) (K (.tup [vi 0, vb false]) (hV ws y0.2.2.2.2 xs)))))))) := by kernel_rfl
theorem ygu (y1i : Y0) (ws cur : List Int) (xs : List Value) (l2 : ya) (c : Int) (K : V → Heap → Prop) : (exF (ycd y1i) Tryz.f24 [.ptr 0 0, .agg (yc l2), vi c] (hV ws cur xs) K) = (
    ((ws = ws) ∧ ((xs.length ≤ 2) ∧ (So (y1i ws.length cur l2 c) (fun (y0 : Int) => (K (vb (decide (y0 ≥ 0))) (hV ws cur xs))))))) := by kernel_rfl
theorem yim (y06 : Y28) (ye : Y0) (yl : Y4) (y0e : Y3) (y05 : Y37) (ws cur : List Int) (xs : List Value) (l2 : ya) (a : Int) (K : V → Heap → Prop) : (exF (yda y06 ye yl y0e y05) Tryz.f64 [.ptr 0 0, .agg (yc l2), vi a] (hV ws cur xs) K) = (
    So (y06 l2 a) (fun (y0 : Int × Int × Bool) => (br (!y0.2.2) (K (.tup [.agg [.ext (Go.Value.pointer Option.none), vi 0, vi 0, vi 0, vi 0, vi 0, vi 0, vi 0, vi 0, vi 0, vi 0, vi 0, vi 0, vi 0, vi 0, vi 0, vi 0, vi 0, vi 0, vi 0, vi 0, vi 0, vi 0, vi 0, vi 0, vi 0], vi 0, vb false]) (hV ws cur xs)) (((ws = ws) ∧ ((xs.length ≤ 2) ∧ (So (ye ws.length cur l2 y0.1) (fun (y1 : Int) => (So (yl (IntKind.i64.wrap (y1 - 1))) (fun (y2 : Int) => (br (y2 == 0) (K (.tup [.agg [.ext (Go.Value.pointer Option.none), vi 0, vi 0, vi 0, vi 0, vi 0, vi 0, vi 0, vi 0, vi 0, vi 0, vi 0, vi 0, vi 0, vi 0, vi 0, vi 0, vi 0, vi 0, vi 0, vi 0, vi 0, vi 0, vi 0, vi 0, vi 0], vi 0, vb false]) (hV ws cur xs)) (Req (!y2 == 0) (br (Int.tmod y0.2.1 y2 != 0) (K (.tup [.agg [.ext (Go.Value.pointer Option.none), vi 0, vi 0, vi 0, vi 0, vi 0, vi 0, vi 0, vi 0, vi 0, vi 0, vi 0, vi 0, vi 0, vi 0, vi 0, vi 0, vi 0, vi 0, vi 0, vi 0, vi 0, vi 0, vi 0, vi 0, vi 0], vi 0, vb false]) (hV ws cur xs)) (Req (!y2 == 0) ((ws = ws) ∧ ((xs.length ≤ 2) ∧ (So (y0e ws.length cur l2 y0.1 (IntKind.i64.wrap (y1 - 1))) (fun (y3 : Int) => (So (y05 y3 (IntKind.i64.wrap (Int.tdiv y0.2.1 y2))) (fun (y4 : Bool) => (br (!y4) (K (.tup [.agg [.ext (Go.Value.pointer Option.none), vi 0, vi 0, vi 0, vi 0, vi 0, vi 0, vi 0, vi 0, vi 0, vi 0, vi 0, vi 0, vi 0, vi 0, vi 0, vi 0, vi 0, vi 0, vi 0, vi 0, vi 0, vi 0, vi 0, vi 0, vi 0], vi 0, vb false]) (hV ws cur xs)) (Req (!y2 == 0) (K (.tup [.agg ([.ptr 0 0] ++ yc l2 ++ [vi y0.1, vi (IntKind.i64.wrap (y1 - 1))]), vi (IntKind.i64.wrap (Int.tdiv y0.2.1 y2)), vb true]) (hV ws cur xs)))))))))))))))))))) ∧ ((ws = ws) ∧ ((xs.length ≤ 2) ∧ (So (ye ws.length cur l2 y0.1) (fun (y5 : Int) => (So (yl (IntKind.i64.wrap (y5 - 1))) (fun (y6 : Int) => (br (y6 == 0) (K (.tup [.agg [.ext (Go.Value.pointer Option.none), vi 0, vi 0, vi 0, vi 0, vi 0, vi 0, vi 0, vi 0, vi 0, vi 0, vi 0, vi 0, vi 0, vi 0, vi 0, vi 0, vi 0, vi 0, vi 0, vi 0, vi 0, vi 0, vi 0, vi 0, vi 0], vi 0, vb false]) (hV ws cur xs)) (Req (!y6 == 0) (br (Int.tmod y0.2.1 y6 != 0) (K (.tup [.agg [.ext (Go.Value.pointer Option.none), vi 0, vi 0, vi 0, vi 0, vi 0, vi 0, vi 0, vi 0, vi 0, vi 0, vi 0, vi 0, vi 0, vi 0, vi 0, vi 0, vi 0, vi 0, vi 0, vi 0, vi 0, vi 0, vi 0, vi 0, vi 0], vi 0, vb false]) (hV ws cur xs)) (Req (!y6 == 0) ((ws = ws) ∧ ((xs.length ≤ 2) ∧ (So (y0e ws.length cur l2 y0.1 (IntKind.i64.wrap (y5 - 1))) (fun (y7 : Int) => (So (y05 y7 (IntKind.i64.wrap (Int.tdiv y0.2.1 y6))) (fun (y8 : Bool) => (br (!y8) (K (.tup [.agg [.ext (Go.Value.pointer Option.none), vi 0, vi 0, vi 0, vi 0, vi 0, vi 0, vi 0, vi 0, vi 0, vi 0, vi 0, vi 0, vi 0, vi 0, vi 0, vi 0, vi 0, vi 0, vi 0, vi 0, vi 0, vi 0, vi 0, vi 0, vi 0], vi 0, vb false]) (hV ws cur xs)) (Req (!y6 == 0) (K (.tup [.agg ([.ptr 0 0] ++ yc l2 ++ [vi y0.1, vi (IntKind.i64.wrap (y5 - 1))]), vi (IntKind.i64.wrap (Int.tdiv y0.2.1 y6)), vb true]) (hV ws cur xs)))))))))))))))))))))))) := by kernel_rfl
theorem yh3 (y0w : Y17) (y0e : Y3) (y1w : Y14) (y0g : Y3) (y1b : Y16) (ws cur : List Int) (xs : List Value) (l2 : ya) (a : Int) (K : V → Heap → Prop) : (exF (yd3 y0w y0e y1w y0g y1b) Tryz.f30 [.ptr 0 0, .agg (yc l2), vi a] (hV ws cur xs) K) = (
    ((ws = ws) ∧ ((xs.length ≤ 2) ∧ (So (y0w ws.length cur l2 a) (fun (y0 : ya × Int × Int × Int × Bool) => (br y0.2.2.2.2 ((ws = ws) ∧ ((xs.length ≤ 2) ∧ (So (y0e ws.length cur y0.1 y0.2.1 y0.2.2.1) (fun (y1 : Int) => (So (y1w y1 y0.2.2.2.1) (fun (y2 : Int) => ((ws = ws) ∧ ((xs.length ≤ 2) ∧ (So (y0g ws.length cur y0.1 y0.2.1 y0.2.2.1) (fun (y3 : Int) => ((ws = ws) ∧ ((xs.length ≤ 2) ∧ (So (y1b ws.length cur y0.1 y0.2.1 y0.2.2.1 y2 (IntKind.i64.wrap (y3 + 1))) (fun (y4 : List Int) => (K (vb true) (hV ws y4 xs)))))))))))))))) (K (vb false) (hV ws cur xs)))))))) := by kernel_rfl
theorem yi8 (y0w : Y17) (ws cur : List Int) (xs : List Value) (l2 : ya) (a : Int) (K : V → Heap → Prop) : (exF (yed y0w) Tryz.f42 [.ptr 0 0, .agg (yc l2), vi a] (hV ws cur xs) K) = (
    ((ws = ws) ∧ ((xs.length ≤ 2) ∧ (So (y0w ws.length cur l2 a) (fun (y0 : ya × Int × Int × Int × Bool) => (br y0.2.2.2.2 (K (.tup [vi y0.2.2.1, vb true]) (hV ws cur xs)) (K (.tup [vi y0.2.2.1, vb false]) (hV ws cur xs)))))))) := by kernel_rfl
theorem ygp (yi : Y22) (yl : Y4) (ye : Y0) (yh : Y4) (yn : Y1) (yu : Y14) (ws cur : List Int) (xs : List Value) (l2 : ya) (c many : Int) (t11 t12 : Int) (K : V → Heap → Prop) (J1 : Env → Heap → Prop) : (ex (y2w yi yl ye yh yn yu) (⟨42, 2⟩ : Cx) (at_ (bodyOf Tryz.f29) [1, 1, 0, 1, 0, 0]) (mkEnv [(0, .ptr 0 0), (2, vi c), (4, .ptr 2 0), (7, vi many), (11, vi t11), (12, vi t12)]) [.pk 0 [ws, cur] xs [.row 1], .row 0 ws true, .cells 28 (yc l2)] (roundK (y2w yi yl ye yh yn yu) (⟨42, 2⟩ : Cx) (at_ (bodyOf Tryz.f29) [1, 1, 0, 1, 0, 0]) (contK (y2w yi yl ye yh yn yu) (⟨42, 2⟩ : Cx) (bodyOf Tryz.f29) [1, 1, 0, 1, 0] (retK (y2w yi yl ye yh yn yu) Tryz.f29 2 K)) J1)) = (
    br (decide (t12 < t11)) (So (yl c) (fun (y0 : Int) => (br (decide (y0 > 0)) ((ws = ws) ∧ ((xs.length ≤ 2) ∧ (So (ye ws.length cur l2 t12) (fun (y1 : Int) => (br (y1 == IntKind.i64.wrap (c + 1)) (So (yh c) (fun (y2 : Int) => (So (yn l2 t12) (fun (y3 : Int) => ((ws = ws) ∧ ((xs.length ≤ 2) ∧ (Req (inR y3 ws.length) (So (yh c) (fun (y4 : Int) => (So (yu (rd cur y3) y4) (fun (y5 : Int) => (J1 (mkEnv [(0, .ptr 0 0), (2, vi c), (4, .ptr 2 0), (7, vi (IntKind.i64.wrap (many + IntKind.i64.wrap (y2 - y5)))), (11, vi t11), (12, vi (IntKind.i64.wrap (t12 + 1)))]) [.pk 0 [ws, cur] xs [.row 1], .row 0 ws true, .cells 28 (yc l2)])))))))))))) (J1 (mkEnv [(0, .ptr 0 0), (2, vi c), (4, .ptr 2 0), (7, vi many), (11, vi t11), (12, vi (IntKind.i64.wrap (t12 + 1)))]) [.pk 0 [ws, cur] xs [.row 1], .row 0 ws true, .cells 28 (yc l2)])))))) (J1 (mkEnv [(0, .ptr 0 0), (2, vi c), (4, .ptr 2 0), (7, vi many), (11, vi t11), (12, vi (IntKind.i64.wrap (t12 + 1)))]) [.pk 0 [ws, cur] xs [.row 1], .row 0 ws true, .cells 28 (yc l2)])))) (K (vi many) (hV ws cur xs))) := by kernel_rfl
theorem yi9 (yi : Y22) (yl : Y4) (ye : Y0) (yh : Y4) (yn : Y1) (yu : Y14) (ws cur : List Int) (xs : List Value) (l2 : ya) (c : Int) (K : V → Heap → Prop) : (exF (y2w yi yl ye yh yn yu) Tryz.f29 [.ptr 0 0, .agg (yc l2), vi c] (hV ws cur xs) K) = (
    So (yi l2) (fun (y0 : yb) => (Loop (y2w yi yl ye yh yn yu) (⟨42, 2⟩ : Cx) (at_ (bodyOf Tryz.f29) [1, 1, 0, 1, 0, 0]) (mkEnv [(0, .ptr 0 0), (2, vi c), (4, .ptr 2 0), (7, vi 0), (11, vi y0.Pages), (12, vi 0)]) [.pk 0 [ws, cur] xs [.row 1], .row 0 ws true, .cells 28 (yc l2)] (contK (y2w yi yl ye yh yn yu) (⟨42, 2⟩ : Cx) (bodyOf Tryz.f29) [1, 1, 0, 1, 0] (retK (y2w yi yl ye yh yn yu) Tryz.f29 2 K))))) := by kernel_rfl
def y0g (nw : Nat) (cur : List Int) (x_l : ya) (x_p x_c : Int) : Option Int :=
  ((y08 x_l x_p).bind fun y0 => (bif (inR y0 nw) then some (rd cur y0) else none))
def y0e (nw : Nat) (cur : List Int) (x_l : ya) (x_p x_c : Int) : Option Int :=
  ((yn x_l x_p).bind fun y0 => (bif (inR y0 nw) then some (rd cur y0) else none))
def y1t (nw : Nat) (cur : List Int) (x_l_c_Workers x_l_c_CPUs : Int) (x_l_c_Pages x_l_c_Stripes : Int) (x_l_c_Tries x_l_c_Wait : Int) (x_l_c_Clock x_l_c_Private : Int) (x_l_c_Cache x_l_c_Bin : Int) (x_l_c_Batch x_l_at_0 : Int) (x_l_at_1 x_l_at_2 : Int) (x_l_at_3 x_l_at_4 : Int) (x_l_at_5 x_l_at_6 : Int) (x_l_at_7 x_l_at_8 : Int) (x_l_at_9 x_l_at_10 : Int) (x_l_at_11 x_p : Int) (x_c left : Int) : Option (List Int) :=
  ((y1p nw cur (ya.mk (yb.mk x_l_c_Workers x_l_c_CPUs x_l_c_Pages x_l_c_Stripes x_l_c_Tries x_l_c_Wait x_l_c_Clock x_l_c_Private x_l_c_Cache x_l_c_Bin x_l_c_Batch) x_l_at_0 x_l_at_1 x_l_at_2 x_l_at_3 x_l_at_4 x_l_at_5 x_l_at_6 x_l_at_7 x_l_at_8 x_l_at_9 x_l_at_10 x_l_at_11) x_p x_c left).bind fun y0 => some y0.2)
def y1b (nw : Nat) (cur : List Int) (x_l : ya) (x_p x_c : Int) (bits left : Int) : Option (List Int) :=
  ((y0g nw cur x_l x_p x_c).bind fun y0 => ((y2l nw cur x_l x_p x_c y0).bind fun y1 => ((yh x_c).bind fun y2 => (bif (left == y2) then ((y1y nw y1.2 x_l x_p).bind fun y3 => some y3.2) else ((yn x_l x_p).bind fun y4 => (bif (inR y4 nw) then ((y08 x_l x_p).bind fun y5 => (bif (inR y5 nw) then ((y1t nw (wr (wr y1.2 y4 bits) y5 left) x_l.c.Workers x_l.c.CPUs x_l.c.Pages x_l.c.Stripes x_l.c.Tries x_l.c.Wait x_l.c.Clock x_l.c.Private x_l.c.Cache x_l.c.Bin x_l.c.Batch x_l.at_0 x_l.at_1 x_l.at_2 x_l.at_3 x_l.at_4 x_l.at_5 x_l.at_6 x_l.at_7 x_l.at_8 x_l.at_9 x_l.at_10 x_l.at_11 x_p x_c left).bind fun y6 => some y6) else none)) else none))))))
def y1j (nw : Nat) (cur : List Int) (l2 : ya) (c : Int) : Option (ya × Int × Int × Bool × (List Int)) :=
  ((yl c).bind fun y0 => (bif (y0 == 0) then some ((ya.mk (yb.mk 0 0 0 0 0 0 0 0 0 0 0) 0 0 0 0 0 0 0 0 0 0 0 0), 0, 0, false, cur) else ((y1i nw cur l2 c).bind fun y1 => (bif (decide (y1 ≥ 0)) then some (l2, y1, c, true, cur) else ((y2b nw cur l2 1 1).bind fun y2 => ((y1r nw cur l2 y2 1 (IntKind.i64.wrap (c + 1))).bind fun y3 => (bif (!y3.1) then some ((ya.mk (yb.mk 0 0 0 0 0 0 0 0 0 0 0) 0 0 0 0 0 0 0 0 0 0 0 0), 0, 0, false, y3.2) else ((y08 l2 y2).bind fun y4 => ((yh c).bind fun y5 => (bif (inR y4 nw) then some (l2, y2, c, true, (wr y3.2 y4 y5)) else none))))))))))
def y01 (nw : Nat) (cur : List Int) (l2 : ya) (c : Int) : Option (Int × Bool × (List Int)) :=
  ((y1j nw cur l2 c).bind fun y0 => (bif y0.2.2.2.1 then ((y0e nw y0.2.2.2.2 y0.1 y0.2.1 y0.2.2.1).bind fun y1 => ((yh c).bind fun y2 => ((y3h y1 y2).bind fun y3 => ((y0e nw y0.2.2.2.2 y0.1 y0.2.1 y0.2.2.1).bind fun y4 => ((y2n y4 y3).bind fun y5 => ((y0g nw y0.2.2.2.2 y0.1 y0.2.1 y0.2.2.1).bind fun y6 => ((y1b nw y0.2.2.2.2 y0.1 y0.2.1 y0.2.2.1 y5 (IntKind.i64.wrap (y6 - 1))).bind fun y7 => ((y2k l2 y0.2.1).bind fun y8 => ((yl c).bind fun y9 => some ((IntKind.i64.wrap (y8 + IntKind.i64.wrap (y3 * y9))), true, y7)))))))))) else some (0, false, y0.2.2.2.2)))
def y0j (nw : Nat) (cur : List Int) (l2 : ya) (c : Int) : Option Bool :=
  ((y1i nw cur l2 c).bind fun y0 => some (decide (y0 ≥ 0)))
def y0w (nw : Nat) (cur : List Int) (l2 : ya) (a : Int) : Option (ya × Int × Int × Int × Bool) :=
  ((y06 l2 a).bind fun y0 => (bif (!y0.2.2) then some ((ya.mk (yb.mk 0 0 0 0 0 0 0 0 0 0 0) 0 0 0 0 0 0 0 0 0 0 0 0), 0, 0, 0, false) else ((ye nw cur l2 y0.1).bind fun y5 => ((yl (IntKind.i64.wrap (y5 - 1))).bind fun y6 => (bif (y6 == 0) then some ((ya.mk (yb.mk 0 0 0 0 0 0 0 0 0 0 0) 0 0 0 0 0 0 0 0 0 0 0 0), 0, 0, 0, false) else (bif (!y6 == 0) then (bif (Int.tmod y0.2.1 y6 != 0) then some ((ya.mk (yb.mk 0 0 0 0 0 0 0 0 0 0 0) 0 0 0 0 0 0 0 0 0 0 0 0), 0, 0, 0, false) else (bif (!y6 == 0) then ((y0e nw cur l2 y0.1 (IntKind.i64.wrap (y5 - 1))).bind fun y7 => ((y05 y7 (IntKind.i64.wrap (Int.tdiv y0.2.1 y6))).bind fun y8 => (bif (!y8) then some ((ya.mk (yb.mk 0 0 0 0 0 0 0 0 0 0 0) 0 0 0 0 0 0 0 0 0 0 0 0), 0, 0, 0, false) else (bif (!y6 == 0) then some (l2, y0.1, (IntKind.i64.wrap (y5 - 1)), (IntKind.i64.wrap (Int.tdiv y0.2.1 y6)), true) else none)))) else none)) else none))))))
def y1h (nw : Nat) (cur : List Int) (l2 : ya) (a : Int) : Option (Bool × (List Int)) :=
  ((y0w nw cur l2 a).bind fun y0 => (bif y0.2.2.2.2 then ((y0e nw cur y0.1 y0.2.1 y0.2.2.1).bind fun y1 => ((y1w y1 y0.2.2.2.1).bind fun y2 => ((y0g nw cur y0.1 y0.2.1 y0.2.2.1).bind fun y3 => ((y1b nw cur y0.1 y0.2.1 y0.2.2.1 y2 (IntKind.i64.wrap (y3 + 1))).bind fun y4 => some (true, y4))))) else some (false, cur)))
def y0v (nw : Nat) (cur : List Int) (l2 : ya) (a : Int) : Option (Int × Bool) :=
  ((y0w nw cur l2 a).bind fun y0 => (bif y0.2.2.2.2 then some (y0.2.2.1, true) else some (y0.2.2.1, false)))
def y5a (nw : Nat) (cur : List Int) (l2 : ya) (c t11 : Int) (many t12 : Int) : Option ((Int × Int) ⊕ Int) :=
  (bif (decide (t12 < t11)) then ((yl c).bind fun y0 => (bif (decide (y0 > 0)) then ((ye nw cur l2 t12).bind fun y1 => (bif (y1 == IntKind.i64.wrap (c + 1)) then ((yh c).bind fun y2 => ((yn l2 t12).bind fun y3 => (bif (inR y3 nw) then ((yh c).bind fun y4 => ((yu (rd cur y3) y4).bind fun y5 => some (.inl ((IntKind.i64.wrap (many + IntKind.i64.wrap (y2 - y5))), (IntKind.i64.wrap (t12 + 1)))))) else none))) else some (.inl (many, (IntKind.i64.wrap (t12 + 1)))))) else some (.inl (many, (IntKind.i64.wrap (t12 + 1)))))) else some (.inr many))
def y75 (nw : Nat) (cur : List Int) (l2 : ya) (c t11 : Int) (s : Int × Int) : Option Int :=
  loopO (fun s => y5a nw cur l2 c t11 s.1 s.2) s
def y04 (nw : Nat) (cur : List Int) (l2 : ya) (c : Int) : Option Int :=
  ((yi l2).bind fun y0 => (y75 nw cur l2 c y0.Pages (0, 0)))
attribute [local irreducible] Loop ex exF contK roundK retK at_ bodyOf mkEnv exFH
theorem y9z : SpecOK Tryz.prog elTT 58 (y5u y0g) := by
  refine spec_of_exF (cfg := (yb2 y08)) (yg rfl rfl rfl) (yd y63 (yd rd_ok ym)) (fn := Tryz.f58) (by kernel_rfl) (by kernel_rfl) (by kernel_rfl) ?_
  intro args H K h
  change y7j y0g args H K at h
  unfold y7j at h
  repeat first | (obtain ⟨_, h⟩ := h) | replace h := Des.el h
  subst_vars
  refine Eq.mpr (yfo y08 _ _ _ _ _ _ K) ?_
  unfold y0g at h
  revert h
  exact bind_So fun y0 => andV (by assumption) (req_So (fun h => h))
theorem y9o : SpecOK Tryz.prog elTT 55 (y67 y0e) := by
  refine spec_of_exF (cfg := (ybr yn)) (yg rfl rfl rfl) (yd y5h (yd rd_ok ym)) (fn := Tryz.f55) (by kernel_rfl) (by kernel_rfl) (by kernel_rfl) ?_
  intro args H K h
  change y72 y0e args H K at h
  unfold y72 at h
  repeat first | (obtain ⟨_, h⟩ := h) | replace h := Des.el h
  subst_vars
  refine Eq.mpr (yi5 yn _ _ _ _ _ _ K) ?_
  unfold y0e at h
  revert h
  exact bind_So fun y0 => andV (by assumption) (req_So (fun h => h))
theorem yjl : SpecOK Tryz.prog elTT 99 (y6a y1t) := by
  refine spec_of_exF (cfg := (y8t y1p)) (yg rfl rfl rfl) (yd yc7 ym) (fn := Tryz.f99) (by kernel_rfl) (by kernel_rfl) (by kernel_rfl) ?_
  intro args H K h
  change y4w y1t args H K at h
  unfold y4w at h
  repeat first | (obtain ⟨_, h⟩ := h) | replace h := Des.el h
  subst_vars
  refine Eq.mpr (ydu y1p _ _ _ _ _ _ _ _ _ _ _ _ _ _ _ _ _ _ _ _ _ _ _ _ _ _ _ _ _ _ _ K) ?_
  unfold y1t at h
  revert h
  exact andV (by assumption) (bind_So fun y0 => fun h => h)
theorem okd_pages_page_turn_1 : SpecDOK Tryz.prog elTT 99 (y6a y1t) := by
  refine specD_of_exF (cfg := (y8t y1p)) (yg rfl rfl rfl) (yd yc7 ym) (fn := Tryz.f99) (by kernel_rfl) (by kernel_rfl) (by kernel_rfl) ?_
  intro args H K h
  change y4w y1t args H K at h
  unfold y4w at h
  repeat first | (obtain ⟨_, h⟩ := h) | replace h := Des.el h
  subst_vars
  refine Eq.mpr (ydu y1p _ _ _ _ _ _ _ _ _ _ _ _ _ _ _ _ _ _ _ _ _ _ _ _ _ _ _ _ _ _ _ K) ?_
  unfold y1t at h
  revert h
  exact andV (by assumption) (bind_So fun y0 => fun h => h)
theorem ybp : SpecOK Tryz.prog elTT 56 (y9g y1b) := by
  refine spec_of_exFH (cfg := (yb6 y0g y2l yh y1y y1t yn y08)) (yg rfl rfl rfl) (yd y9z (yd ygi (yd y4t (yd yg5 (yd yjl (yd y5h (yd wr_ok (yd y63 ym)))))))) (sdC_ok okd_pages_page_turn_1) (fn := Tryz.f56) (by kernel_rfl) (by kernel_rfl) (by kernel_rfl) ?_
  intro args H K h
  change y6r y1b args H K at h
  unfold y6r at h
  repeat first | (obtain ⟨_, h⟩ := h) | replace h := Des.el h
  subst_vars
  refine Eq.mpr (yh5 y0g y2l yh y1y y1t yn y08 _ _ _ _ _ _ _ _ K) ?_
  unfold y1b at h
  revert h
  exact andV (by assumption) (bind_So fun y0 => andV (by assumption) (bind_So fun y1 => bind_So fun y2 => br_So (andV (by assumption) (bind_So fun y3 => fun h => h)) (bind_So fun y4 => andV (by assumption) (req_So (bind_So fun y5 => andV (by assumption) (req_So (andV (by assumption) (bind_So fun y6 => fun h => h))))))))
theorem ygr : SpecOK Tryz.prog elTT 53 (yev y1j) := by
  refine spec_of_exF (cfg := (yex yl y1i y2b y1r y08 yh)) (yg rfl rfl rfl) (yd y4u (yd ycu (yd ykc (yd yj9 (yd y63 (yd y4t (yd wr_ok ym))))))) (fn := Tryz.f53) (by kernel_rfl) (by kernel_rfl) (by kernel_rfl) ?_
  intro args H K h
  change ya0 y1j args H K at h
  unfold ya0 at h
  repeat first | (obtain ⟨_, h⟩ := h) | replace h := Des.el h
  subst_vars
  refine Eq.mpr (yfv yl y1i y2b y1r y08 yh _ _ _ _ _ K) ?_
  unfold y1j at h
  revert h
  exact bind_So fun y0 => br_So (fun h => h) (andV (by assumption) (bind_So fun y1 => br_So (fun h => h) (andV (by assumption) (bind_So fun y2 => andV (by assumption) (bind_So fun y3 => br_So (fun h => h) (bind_So fun y4 => bind_So fun y5 => andV (by assumption) (req_So (fun h => h))))))))
theorem ya4 : SpecOK Tryz.prog elTT 25 (y5o y01) := by
  refine spec_of_exF (cfg := (yf6 y1j y0e yh y3h y2n y0g y1b y2k yl)) (yg rfl rfl rfl) (yd ygr (yd y9o (yd y4t (yd yj0 (yd ygb (yd y9z (yd ybp (yd ygj (yd y4u ym))))))))) (fn := Tryz.f25) (by kernel_rfl) (by kernel_rfl) (by kernel_rfl) ?_
  intro args H K h
  change y7u y01 args H K at h
  unfold y7u at h
  repeat first | (obtain ⟨_, h⟩ := h) | replace h := Des.el h
  subst_vars
  refine Eq.mpr (yj7 y1j y0e yh y3h y2n y0g y1b y2k yl _ _ _ _ _ K) ?_
  unfold y01 at h
  revert h
  exact andV (by assumption) (bind_So fun y0 => br_So (andV (by assumption) (bind_So fun y1 => bind_So fun y2 => bind_So fun y3 => andV (by assumption) (bind_So fun y4 => bind_So fun y5 => andV (by assumption) (bind_So fun y6 => andV (by assumption) (bind_So fun y7 => bind_So fun y8 => bind_So fun y9 => fun h => h))))) (fun h => h))
theorem ybl : SpecOK Tryz.prog elTT 24 (y8b y0j) := by
  refine spec_of_exF (cfg := (ycd y1i)) (yg rfl rfl rfl) (yd ycu ym) (fn := Tryz.f24) (by kernel_rfl) (by kernel_rfl) (by kernel_rfl) ?_
  intro args H K h
  change yaj y0j args H K at h
  unfold yaj at h
  repeat first | (obtain ⟨_, h⟩ := h) | replace h := Des.el h
  subst_vars
  refine Eq.mpr (ygu y1i _ _ _ _ _ K) ?_
  unfold y0j at h
  revert h
  exact andV (by assumption) (bind_So fun y0 => fun h => h)
theorem ye2 : SpecOK Tryz.prog elTT 64 (y7s y0w) := by
  refine spec_of_exF (cfg := (yda y06 ye yl y0e y05)) (yg rfl rfl rfl) (yd ydj (yd y4l (yd y4u (yd y9o (yd yeh ym))))) (fn := Tryz.f64) (by kernel_rfl) (by kernel_rfl) (by kernel_rfl) ?_
  intro args H K h
  change y6f y0w args H K at h
  unfold y6f at h
  repeat first | (obtain ⟨_, h⟩ := h) | replace h := Des.el h
  subst_vars
  refine Eq.mpr (yim y06 ye yl y0e y05 _ _ _ _ _ K) ?_
  unfold y0w at h
  revert h
  exact bind_So fun y0 => br_So (fun h => h) (alt_So (andV (by assumption) (bind_So fun y1 => bind_So fun y2 => br_So (fun h => h) (req_So (br_So (fun h => h) (req_So (andV (by assumption) (bind_So fun y3 => bind_So fun y4 => br_So (fun h => h) (req_So (fun h => h))))))))) (andV (by assumption) (bind_So fun y5 => bind_So fun y6 => br_So (fun h => h) (req_So (br_So (fun h => h) (req_So (andV (by assumption) (bind_So fun y7 => bind_So fun y8 => br_So (fun h => h) (req_So (fun h => h))))))))))
theorem yh8 : SpecOK Tryz.prog elTT 30 (ydc y1h) := by
  refine spec_of_exF (cfg := (yd3 y0w y0e y1w y0g y1b)) (yg rfl rfl rfl) (yd ye2 (yd y9o (yd ykd (yd y9z (yd ybp ym))))) (fn := Tryz.f30) (by kernel_rfl) (by kernel_rfl) (by kernel_rfl) ?_
  intro args H K h
  change y73 y1h args H K at h
  unfold y73 at h
  repeat first | (obtain ⟨_, h⟩ := h) | replace h := Des.el h
  subst_vars
  refine Eq.mpr (yh3 y0w y0e y1w y0g y1b _ _ _ _ _ K) ?_
  unfold y1h at h
  revert h
  exact andV (by assumption) (bind_So fun y0 => br_So (andV (by assumption) (bind_So fun y1 => bind_So fun y2 => andV (by assumption) (bind_So fun y3 => andV (by assumption) (bind_So fun y4 => fun h => h)))) (fun h => h))
theorem yjh : SpecOK Tryz.prog elTT 42 (yck y0v) := by
  refine spec_of_exF (cfg := (yed y0w)) (yg rfl rfl rfl) (yd ye2 ym) (fn := Tryz.f42) (by kernel_rfl) (by kernel_rfl) (by kernel_rfl) ?_
  intro args H K h
  change y6g y0v args H K at h
  unfold y6g at h
  repeat first | (obtain ⟨_, h⟩ := h) | replace h := Des.el h
  subst_vars
  refine Eq.mpr (yi8 y0w _ _ _ _ _ K) ?_
  unfold y0v at h
  revert h
  exact andV (by assumption) (bind_So fun y0 => br_So (fun h => h) (fun h => h))
theorem lpok_pages_Free_L1 (ws cur : List Int) (xs : List Value) (l2 : ya) (c many : Int) (t11 t12 : Int) (K : V → Heap → Prop) (hx : xs.length ≤ 2) : So (y75 ws.length cur l2 c t11 (many, t12)) (fun (x : Int) => K (vi x) (hV ws cur xs)) → Loop (y2w yi yl ye yh yn yu) (⟨42, 2⟩ : Cx) (at_ (bodyOf Tryz.f29) [1, 1, 0, 1, 0, 0]) (mkEnv [(0, .ptr 0 0), (2, vi c), (4, .ptr 2 0), (7, vi many), (11, vi t11), (12, vi t12)]) [.pk 0 [ws, cur] xs [.row 1], .row 0 ws true, .cells 28 (yc l2)] (contK (y2w yi yl ye yh yn yu) (⟨42, 2⟩ : Cx) (bodyOf Tryz.f29) [1, 1, 0, 1, 0] (retK (y2w yi yl ye yh yn yu) Tryz.f29 2 K)) := by
  refine loopK_So (fun (s_ : Int × Int) => (mkEnv [(0, .ptr 0 0), (2, vi c), (4, .ptr 2 0), (7, vi s_.1), (11, vi t11), (12, vi s_.2)])) (fun (s_ : Int × Int) => [.pk 0 [ws, cur] xs [.row 1], .row 0 ws true, .cells 28 (yc l2)]) (fun (x : Int) => K (vi x) (hV ws cur xs)) ?_ (many, t12)
  intro s_ J1 h
  clear many
  clear t12
  obtain ⟨many, t12⟩ := s_
  refine Eq.mpr (ygp yi yl ye yh yn yu ws cur xs l2 c many t11 t12 K J1) ?_
  have h : So (y5a ws.length cur l2 c t11 many t12) _ := h
  unfold y5a at h
  revert h
  exact br_So (bind_So fun y0 => br_So (andV hx (bind_So fun y1 => br_So (bind_So fun y2 => bind_So fun y3 => andV hx (req_So (bind_So fun y4 => bind_So fun y5 => fun h => h))) (fun h => h))) (fun h => h)) (fun h => h)
theorem ydm : SpecOK Tryz.prog elTT 29 (y83 y04) := by
  refine spec_of_exF (cfg := (y2w yi yl ye yh yn yu)) (yg rfl rfl rfl) (yd y3s (yd y4u (yd y4l (yd y4t (yd y5h (yd rd_ok (yd yb3 ym))))))) (fn := Tryz.f29) (by kernel_rfl) (by kernel_rfl) (by kernel_rfl) ?_
  intro args H K h
  change y79 y04 args H K at h
  unfold y79 at h
  repeat first | (obtain ⟨_, h⟩ := h) | replace h := Des.el h
  subst_vars
  refine Eq.mpr (yi9 yi yl ye yh yn yu _ _ _ _ _ K) ?_
  unfold y04 at h
  revert h
  exact bind_So fun y0 => lpok_pages_Free_L1 _ _ _ _ _ _ _ _ K (by assumption)
end Go.Rx
end

section
namespace Go.Rx
def sizeC (c : Int) : Int := if c = 0 then 1 else if c = 1 then 2 else if c = 2 then 4 else if c = 3 then 8 else if c = 4 then 16 else 0
theorem sizeC_in {c : Int} (h : 0 ≤ c ∧ c < 5) : 1 ≤ sizeC c ∧ sizeC c ≤ 16 ∧ slotsC c * sizeC c = 32 := by
  have e : c = 0 ∨ c = 1 ∨ c = 2 ∨ c = 3 ∨ c = 4 := by omega
  rcases e with rfl | rfl | rfl | rfl | rfl <;> simp [sizeC, slotsC]
theorem sizeC_no {c : Int} (h : ¬ (0 ≤ c ∧ c < 5)) : sizeC c = 0 := by
  unfold sizeC
  rw [if_neg (by omega), if_neg (by omega), if_neg (by omega), if_neg (by omega), if_neg (by omega)]
theorem slotsC_no {c : Int} (h : ¬ (0 ≤ c ∧ c < 5)) : slotsC c = 0 := by
  unfold slotsC
  rw [if_neg (by omega), if_neg (by omega), if_neg (by omega), if_neg (by omega), if_neg (by omega)]
theorem firstF_is {ls : Int → Int → List Int} {c : Int} : ∀ (n : Nat) (f : Int), (firstF ls c f n = -1 ∧ ∀ g, f ≤ g → g < f + n → ls c g = []) ∨
    (∃ g x r, f ≤ g ∧ g < f + n ∧ ls c g = x :: r ∧ firstF ls c f n = x ∧ ∀ g', f ≤ g' → g' < g → ls c g' = [])
  | 0, f => .inl ⟨rfl, fun g h1 h2 => by omega⟩
  | n + 1, f => by
    cases hl : ls c f with
    | cons x r => exact .inr ⟨f, x, r, by omega, by omega, hl, by simp [firstF, hl], fun g' h1 h2 => by omega⟩
    | nil =>
      have e : firstF ls c f (n + 1) = firstF ls c (f + 1) n := by simp [firstF, hl]
      rw [e]
      rcases firstF_is n (f + 1) with ⟨h1, h2⟩ | ⟨g, x, r, h1, h2, h3, h4, h5⟩
      · refine .inl ⟨h1, fun g k1 k2 => ?_⟩
        by_cases hg : g = f
        · rw [hg]; exact hl
        · exact h2 g (by omega) (by omega)
      · refine .inr ⟨g, x, r, by omega, by omega, h3, h4, fun g' k1 k2 => ?_⟩
        by_cases hg : g' = f
        · rw [hg]; exact hl
        · exact h5 g' (by omega) (by omega)
variable {L : ya} {nw : Nat} {cur u inn : List Int} {ls : Int → Int → List Int}
theorem page_at (v : VOK L nw cur) {p : Int} (hp : 0 ≤ p ∧ p < L.c.Pages) : inR (L.at_1 + p) nw = true ∧ inR (L.at_2 + p) nw = true ∧ inR (L.at_3 + p) nw = true := by
  have := v.lay.geo11; have := v.all
  exact ⟨inR_int (by omega) (by omega), inR_int (by omega) (by omega), inR_int (by omega) (by omega)⟩
theorem lPg_in {at_ p : Int} (hp : 0 ≤ p ∧ p < L.c.Pages) : lPg L at_ p = at_ + p := if_pos hp
theorem left_eq (v : VOK L nw cur) {p : Int} (hp : 0 ≤ p ∧ p < L.c.Pages) (c : Int) : y0g nw cur L p c = some (cw L cur p) := by
  unfold y0g
  rw [Count_eq v.lay, Option.bind_some, lPg_in hp, (page_at v hp).2.1]
  rfl
theorem bits_eq (v : VOK L nw cur) {p : Int} (hp : 0 ≤ p ∧ p < L.c.Pages) (c : Int) : y0e nw cur L p c = some (bw L cur p) := by
  unfold y0e
  rw [Bits_eq v.lay, Option.bind_some, lPg_in hp, (page_at v hp).2.2]
  rfl
theorem drop_page (h : LayOK L) (hn : L.at_11 ≤ (cur.length : Int)) {p n c : Int} (hp : 0 ≤ p ∧ p < L.c.Pages) (hc : 0 ≤ c ∧ c < 5) (hk : kw L cur p = c + 1) (l : RunLen L.at_1 L.c.Pages cur p n) (t : Ran L.at_1 L.c.Pages cur u p n 0) : u = setP L.at_1 L.c.Pages cur p 0 0 := by
  have e : n = 1 := l.one (by rw [knd_in hp]; show kw L cur p ≠ 6; omega)
  subst e
  have g := GeoKL h hn
  have s := (Ran.zero L.at_1 L.c.Pages cur p 0).step g hp.1 (by omega) (by omega)
  rw [Int.add_zero, Int.zero_add] at s
  exact t.uniq s
theorem pturn_eq (v : VOK L nw cur) (r : RepW L.at_4 L.c.Pages cur inn ls) {p c n b : Int} (hp : 0 ≤ p ∧ p < L.c.Pages) (hc : 0 ≤ c ∧ c < 5) (hk : kw L cur p = c + 1) {inn1 : List Int} {ls1 : Int → Int → List Int}
    (r1 : RepW L.at_4 L.c.Pages (unl L ls cur p c (cw L cur p)) inn1 ls1) (hlen : (unl L ls cur p c (cw L cur p)).length = cur.length)
    (hoff : ∀ b, 0 ≤ b → (b < L.at_4 ∨ L.at_4 + 2 * L.c.Pages + 62 ≤ b) → wd (unl L ls cur p c (cw L cur p)) b = wd cur b) :
    y1b nw cur L p c b n = some (turnW L (unl L ls cur p c (cw L cur p)) p c b n) := by
  have g := v.lay.geo11
  unfold y1b
  rw [left_eq v hp, Option.bind_some, Unlink_eq v (xs := ls c (cw L cur p)) (fun k => r.lst _ _ k), Option.bind_some, Slots_eq, Option.bind_some]
  have e2 : (if isL c (cw L cur p) ∧ p ∈ ls c (cw L cur p) then (true, unlinkW L.at_4 L.c.Pages cur (hdI (L.at_4 + 2 * L.c.Pages) c (cw L cur p)) p) else (false, cur)).2 = unl L ls cur p c (cw L cur p) := by unfold unl; split <;> rfl
  rw [e2]
  generalize unl L ls cur p c (cw L cur p) = x at *
  have vx : VOK L nw x := ⟨v.lay, hlen.trans v.len, v.all⟩
  have hkx : kw L x p = c + 1 := (hoff _ (by omega) (.inl (by omega))).trans hk
  unfold turnW
  by_cases hs : n = slotsC c
  · rw [if_pos hs, beq_iff_eq.2 hs, cond_true]
    obtain ⟨k, y, e, h⟩ := eDrop_eq vx p
    rw [e, Option.bind_some]
    have hkn : knd L.at_1 L.c.Pages x p = c + 1 := (knd_in hp).trans hkx
    rcases h with ⟨_, _, h3, h4⟩ | ⟨h1, _⟩
    · exact congrArg some (drop_page v.lay (by have := vx.len; have := vx.all; omega) hp hc hkx h3 h4)
    · exact absurd ⟨by rw [hkn]; omega, by rw [hkn]; omega⟩ h1
  · rw [if_neg hs, beq_eq_false_iff_ne.2 hs, cond_false]
    rw [Bits_eq v.lay, Option.bind_some, lPg_in hp, (page_at v hp).2.2, cond_true, Count_eq v.lay, Option.bind_some, lPg_in hp, (page_at v hp).2.1, cond_true]
    have hw : wr (wr x (L.at_3 + p) b) (L.at_2 + p) n = (x.set (L.at_3 + p).toNat b).set (L.at_2 + p).toNat n := rfl
    rw [hw]
    have hxl : (x.length : Int) ≥ L.at_11 := by have := vx.len; have := vx.all; omega
    have hyw : ∀ b', 0 ≤ b' → wd ((x.set (L.at_3 + p).toNat b).set (L.at_2 + p).toNat n) b' = if b' = L.at_2 + p then n else if b' = L.at_3 + p then b else wd x b' := fun b' hb => by
      rw [wd_set (by rw [List.length_set]; omega) hb, wd_set (by omega) hb]
    have vy : VOK L nw ((x.set (L.at_3 + p).toNat b).set (L.at_2 + p).toNat n) := ⟨v.lay, by rw [List.length_set, List.length_set]; exact vx.len, v.all⟩
    have ry : RepW L.at_4 L.c.Pages ((x.set (L.at_3 + p).toNat b).set (L.at_2 + p).toNat n) inn1 ls1 := r1.congr (by omega) (by omega) (fun b' h0 h1 => by rw [hyw b' (by omega), if_neg (by omega), if_neg (by omega)])
    generalize (x.set (L.at_3 + p).toNat b).set (L.at_2 + p).toNat n = y at *
    show ((y1p nw y L p c n).bind fun y0 => some (Prod.snd y0)).bind (fun y6 => some y6) = _
    rw [Link_eq vy (xs := ls1 c n) (fun k => ry.lst _ _ k), Option.bind_some, Option.bind_some]
    by_cases hL : isL c n
    · rw [if_pos ⟨hL, hp⟩, if_pos hL]
    · rw [if_neg (fun x => hL x.1), if_neg hL]
structure Tk (L : ya) (w : List Int) (a p c : Int) (m : Nat) (i : Int) : Prop where
  user : L.at_10 ≤ a ∧ a < L.at_11
  page : p = (a - L.at_10) / 32
  cls : 0 ≤ c ∧ c < 5
  kind : kw L w p = c + 1
  bits : bw L w p = m
  mul : (a - L.at_10) % 32 % sizeC c = 0
  num : i = (a - L.at_10) % 32 / sizeC c
  is : m.testBit i.toNat = true
theorem Tk.more {w : List Int} {a p c i : Int} {m : Nat} (h : LayOK L) (t : Tk L w a p c m i) : (0 ≤ p ∧ p < L.c.Pages) ∧ (0 ≤ i ∧ i < slotsC c) ∧ a = L.at_10 + p * 32 + i * sizeC c := by
  obtain ⟨⟨h1, h2⟩, rfl, hc, _, _, hm, rfl, _⟩ := t
  have := h.geo11
  have e : c = 0 ∨ c = 1 ∨ c = 2 ∨ c = 3 ∨ c = 4 := by omega
  refine ⟨⟨by omega, by omega⟩, ?_⟩
  rcases e with rfl | rfl | rfl | rfl | rfl <;> simp [sizeC, slotsC] at * <;> omega
theorem pat_eq (v : VOK L nw cur) (i : Inv11 L cur inn ls) (a : Int) :
    (∃ p c m j, Tk L cur a p c m j ∧ ClsOK L cur inn p c m ∧ y0w nw cur L a = some (L, p, c, j, true)) ∨
    ((∀ p c m j, ¬ Tk L cur a p c m j) ∧ ∃ L0, y0w nw cur L a = some (L0, 0, 0, 0, false)) := by
  have g := v.lay.geo11
  unfold y0w
  rw [Place_eq v.lay, Option.bind_some]
  unfold lPlace
  by_cases hu : L.at_10 ≤ a ∧ a < L.at_11
  · rw [if_pos hu]
    simp only [Bool.not_true, cond_false]
    generalize hpd : (a - L.at_10) / 32 = p
    have hp : 0 ≤ p ∧ p < L.c.Pages := by omega
    rw [eKind_eq v, Option.bind_some, knd_in hp]
    have hkw : wd cur (L.at_1 + p) = kw L cur p := rfl
    rw [hkw]
    rcases i.pg p hp.1 hp.2 with f | ⟨c, m, f⟩
    · rw [f.kind, show IntKind.wrap .i64 (0 - 1) = -1 from rfl, Size_eq]
      refine .inr ⟨fun p' c' m' j t => ?_, _, rfl⟩
      have := t.page; have := t.kind; have := t.cls
      rw [hpd] at *
      subst p'
      have := f.kind
      omega
    · have hc := f.cls
      obtain ⟨z1, z2, z3⟩ := sizeC_in hc
      obtain ⟨s1, s2, s3⟩ := slots_pow hc
      rw [f.kind, wrap_id (by omega) (by omega), show c + 1 - 1 = c by omega, Size_eq, Option.bind_some]
      have hsz : (if c = 0 then 1 else if c = 1 then 2 else if c = 2 then 4 else if c = 3 then 8 else if c = 4 then 16 else 0) = sizeC c := rfl
      rw [hsz, beq_eq_false_iff_ne.2 (show sizeC c ≠ 0 by omega)]
      simp only [Bool.not_false, cond_true, cond_false]
      have hx : 0 ≤ (a - L.at_10) % 32 ∧ (a - L.at_10) % 32 < 32 := by omega
      have same : ∀ p' c' m' j, Tk L cur a p' c' m' j → p' = p ∧ c' = c ∧ m' = m := by
        intro p' c' m' j t
        have e1 : p' = p := t.page.trans hpd
        subst e1
        have := t.kind; have := f.kind
        have e3 : (m' : Int) = m := t.bits.symm.trans f.bits
        exact ⟨rfl, by omega, by omega⟩
      rw [Int.tmod_eq_emod_of_nonneg hx.1, Int.tdiv_eq_ediv_of_nonneg hx.1]
      by_cases hm : (a - L.at_10) % 32 % sizeC c = 0
      · have hj : 0 ≤ (a - L.at_10) % 32 / sizeC c ∧ (a - L.at_10) % 32 / sizeC c < 32 := by
          have e : c = 0 ∨ c = 1 ∨ c = 2 ∨ c = 3 ∨ c = 4 := by omega
          rcases e with rfl | rfl | rfl | rfl | rfl <;> simp [sizeC] <;> omega
        rw [hm, show ((0 : Int) != 0) = false from rfl, cond_false, bits_eq v hp, Option.bind_some, f.bits, wrap_id (by omega) (by omega), Has_eq (bits_lt f.lt s1), Option.bind_some]
        have hb : bitI m ((a - L.at_10) % 32 / sizeC c) = m.testBit ((a - L.at_10) % 32 / sizeC c).toNat := by unfold bitI; rw [decide_eq_true hj]; rfl
        rw [hb]
        cases ht : m.testBit ((a - L.at_10) % 32 / sizeC c).toNat with
        | true => exact .inl ⟨p, c, m, _, ⟨hu, hpd.symm, hc, f.kind, f.bits, hm, rfl, ht⟩, f, rfl⟩
        | false =>
          refine .inr ⟨fun p' c' m' j t => ?_, _, rfl⟩
          obtain ⟨rfl, rfl, rfl⟩ := same p' c' m' j t
          have := t.is
          rw [t.num, ht] at this
          cases this
      · rw [bne_iff_ne.2 hm]
        refine .inr ⟨fun p' c' m' j t => ?_, _, rfl⟩
        obtain ⟨rfl, rfl, rfl⟩ := same p' c' m' j t
        exact hm t.mul
  · rw [if_neg hu]
    exact .inr ⟨fun p c m j t => hu t.user, _, rfl⟩
theorem pTaken_eq (v : VOK L nw cur) (i : Inv11 L cur inn ls) (a : Int) :
    (∃ p c m j, Tk L cur a p c m j ∧ y0v nw cur L a = some (c, true)) ∨ ((∀ p c m j, ¬ Tk L cur a p c m j) ∧ y0v nw cur L a = some (0, false)) := by
  unfold y0v
  rcases pat_eq v i a with ⟨p, c, m, j, h1, _, h3⟩ | ⟨h1, L0, h2⟩
  · exact .inl ⟨p, c, m, j, h1, by rw [h3]; rfl⟩
  · exact .inr ⟨h1, by rw [h2]; rfl⟩
inductive RetS (L : ya) (ls : Int → Int → List Int) (w : List Int) (a : Int) : Bool → List Int → Prop
  | no : (∀ p c m j, ¬ Tk L w a p c m j) → RetS L ls w a false w
  | yes {p c : Int} {m : Nat} {j : Int} : Tk L w a p c m j → RetS L ls w a true (turnW L (unl L ls w p c (cw L w p)) p c ((m - 2 ^ j.toNat : Nat) : Int) (cw L w p + 1))
theorem RetS.uniq {w : List Int} {a : Int} {b b' : Bool} {x x' : List Int} (h : RetS L ls w a b x) (h' : RetS L ls w a b' x') : b = b' ∧ x = x' := by
  cases h with
  | no h =>
    cases h' with
    | no _ => exact ⟨rfl, rfl⟩
    | yes t => exact absurd t (h _ _ _ _)
  | @yes p c m j t =>
    cases h' with
    | no h => exact absurd t (h _ _ _ _)
    | @yes p' c' m' j' t' =>
      have e1 : p = p' := t.page.trans t'.page.symm
      subst e1
      have e2 : c = c' := by have := t.kind; have := t'.kind; omega
      subst e2
      have e3 : m = m' := by have := t.bits; have := t'.bits; omega
      subst e3
      have e4 : j = j' := t.num.trans t'.num.symm
      subst e4
      exact ⟨rfl, rfl⟩
theorem cls_rep (h : LayOK L) (hn : L.at_11 ≤ (cur.length : Int)) (r : RepW L.at_4 L.c.Pages cur inn ls) {p c : Int} {m : Nat} (hp : 0 ≤ p ∧ p < L.c.Pages) (f : ClsOK L cur inn p c m) :
    ∃ ls', RepW L.at_4 L.c.Pages (unl L ls cur p c (cw L cur p)) (inn.set p.toNat 0) ls' ∧ (unl L ls cur p c (cw L cur p)).length = cur.length ∧ ∀ b, 0 ≤ b → (b < L.at_4 ∨ L.at_4 + 2 * L.c.Pages + 62 ≤ b) → wd (unl L ls cur p c (cw L cur p)) b = wd cur b := by
  have := popN_le m (slotsC c).toNat
  have := f.left; have := f.used; have := slots_pow f.cls
  exact unl_rep h hn r hp f.cls (by omega) f.linked
theorem pReturn_eq (v : VOK L nw cur) (i : Inv11 L cur inn ls) (a : Int) : ∃ b x, y1h nw cur L a = some (b, x) ∧ RetS L ls cur a b x := by
  unfold y1h
  rcases pat_eq v i a with ⟨p, c, m, j, t, f, e⟩ | ⟨h1, L0, e⟩
  · rw [e, Option.bind_some]
    obtain ⟨hp, hj, _⟩ := t.more v.lay
    obtain ⟨s1, s2, s3⟩ := slots_pow f.cls
    have hpop := popN_le m (slotsC c).toNat
    have hleft := f.left; have hused := f.used
    have hn : L.at_11 ≤ (cur.length : Int) := by have := v.len; have := v.all; omega
    obtain ⟨ls', r1, hlen, hoff⟩ := cls_rep v.lay hn i.rep hp f
    simp only [cond_true]
    rw [bits_eq v hp, Option.bind_some, f.bits, Clear_eq (bits_lt f.lt s1) (by omega) t.is, Option.bind_some, left_eq v hp, Option.bind_some, wrap_id (by omega) (by omega), pturn_eq v i.rep hp f.cls f.kind r1 hlen hoff]
    exact ⟨_, _, rfl, .yes t⟩
  · rw [e, Option.bind_some]
    exact ⟨_, _, rfl, .no h1⟩
theorem RetS.inv {w x : List Int} {a : Int} {b : Bool} (h : LayOK L) (hn : L.at_11 ≤ (w.length : Int)) (i : Inv11 L w inn ls) (s : RetS L ls w a b x) : x.length = w.length ∧ ∃ inn' ls', Inv11 L x inn' ls' := by
  cases s with
  | no _ => exact ⟨rfl, _, _, i⟩
  | @yes p c m j t =>
    obtain ⟨hp, hj, _⟩ := t.more h
    obtain ⟨s1, s2, s3⟩ := slots_pow t.cls
    have f : ClsOK L w inn p c m := by
      rcases i.pg p hp.1 hp.2 with f | ⟨c', m', f⟩
      · have := f.kind; have := t.kind; have := t.cls; omega
      · have e1 : c' = c := by have := f.kind; have := t.kind; omega
        subst e1
        have e2 : m' = m := by have := f.bits; have := t.bits; omega
        subst e2
        exact f
    obtain ⟨ls', r1, hlen, hoff⟩ := cls_rep h hn i.rep hp f
    have hs := popN_sub (k := (slotsC c).toNat) (by omega) t.is
    have hleft := f.left
    refine ⟨by rw [turnW_len, hlen], turn_inv h hn hp (fun q h0 h1 _ => i.pg q h0 h1) r1 hlen hoff t.cls t.kind (Nat.lt_of_le_of_lt (Nat.sub_le _ _) f.lt) (by omega)⟩
theorem pRoom_eq (v : VOK L nw cur) (i : Inv11 L cur inn ls) (c : Int) : y0j nw cur L c = some (decide (0 ≤ firstF ls c 1 (slotsC c).toNat)) := by
  unfold y0j
  rw [pFirst_eq v (ls := ls) (fun f k => i.rep.lst _ _ k), Option.bind_some]
def freeN (L : ya) (w : List Int) (c : Int) : Nat → Int
  | 0 => 0
  | k + 1 => freeN L w c k + if (0 ≤ c ∧ c < 5) ∧ kw L w k = c + 1 then slotsC c - popN (bw L w k).toNat (slotsC c).toNat else 0
theorem freeN_le (L : ya) (w : List Int) (c : Int) : ∀ k, 0 ≤ freeN L w c k ∧ freeN L w c k ≤ 32 * k
  | 0 => by simp [freeN]
  | k + 1 => by
    have := freeN_le L w c k
    have := slotsC_le c
    have := popN_le (bw L w k).toNat (slotsC c).toNat
    simp only [freeN]
    split <;> omega
theorem pFree_eq (v : VOK L nw cur) (i : Inv11 L cur inn ls) (c : Int) : y04 nw cur L c = some (freeN L cur c L.c.Pages.toNat) := by
  have hpg := v.lay.pages
  have key : ∀ d k : Nat, L.c.Pages.toNat - k = d → (k : Int) ≤ L.c.Pages → y75 nw cur L c L.c.Pages (freeN L cur c k, (k : Int)) = some (freeN L cur c L.c.Pages.toNat) := by
    intro d
    induction d with
    | zero =>
      intro k hd hk
      have e : k = L.c.Pages.toNat := by omega
      subst e
      exact loopO_end (by simp only [y5a, decide_eq_false (show ¬ ((L.c.Pages.toNat : Int) < L.c.Pages) by omega), cond_false])
    | succ d ih =>
      intro k hd hk
      have hp : 0 ≤ (k : Int) ∧ (k : Int) < L.c.Pages := by omega
      have hb := freeN_le L cur c k
      have hb1 := freeN_le L cur c (k + 1)
      refine (loopO_go (s' := (freeN L cur c (k + 1), ((k + 1 : Nat) : Int))) ?_).trans (ih (k + 1) (by omega) (by omega))
      simp only [y5a, decide_eq_true hp.2, cond_true, Size_eq, Option.bind_some]
      rw [show (if c = 0 then 1 else if c = 1 then 2 else if c = 2 then 4 else if c = 3 then 8 else if c = 4 then 16 else 0) = sizeC c from rfl, wrap_id (x := (k : Int) + 1) (by omega) (by omega)]
      simp only [freeN]
      by_cases hc : 0 ≤ c ∧ c < 5
      · obtain ⟨z1, z2, z3⟩ := sizeC_in hc
        obtain ⟨s1, s2, s3⟩ := slots_pow hc
        rw [decide_eq_true (show sizeC c > 0 by omega), cond_true, eKind_eq v, Option.bind_some, knd_in hp, wrap_id (x := c + 1) (by omega) (by omega)]
        have hkw : wd cur (L.at_1 + (k : Int)) = kw L cur k := rfl
        rw [hkw]
        by_cases hk1 : kw L cur k = c + 1
        · rw [beq_iff_eq.2 hk1, cond_true, if_pos ⟨hc, hk1⟩, Slots_eq, Option.bind_some, Bits_eq v.lay, Option.bind_some, lPg_in hp, (page_at v hp).2.2, cond_true]
          rcases i.pg k hp.1 hp.2 with f | ⟨c', m, f⟩
          · have := f.kind; omega
          · have e1 : c' = c := by have := f.kind; omega
            subst e1
            have hrd : rd cur (L.at_3 + (k : Int)) = (m : Int) := f.bits
            have hbw : bw L cur k = (m : Int) := f.bits
            have hpop := popN_le m (slotsC c').toNat
            rw [hrd, hbw, Int.toNat_natCast]
            have hcnt : yu (m : Int) (slotsC c') = some (popN m (slotsC c').toNat : Int) := by
              have := Count_is (bits_lt f.lt s1) s1
              rw [s3] at this
              exact this
            rw [Option.bind_some, hcnt, Option.bind_some, wrap_id (x := slotsC c' - (popN m (slotsC c').toNat : Int)) (by omega) (by omega), wrap_id (by omega) (by omega)]
            rfl
        · rw [beq_eq_false_iff_ne.2 hk1, cond_false, if_neg (fun x => hk1 x.2), Int.add_zero]
          rfl
      · rw [sizeC_no hc, if_neg (fun x => hc x.1), Int.add_zero]
        rfl
  unfold y04
  rw [Config_eq, Option.bind_some]
  exact key _ 0 rfl (by omega)
end Go.Rx
end

section
namespace Go.Rx
variable {L : ya} {nw : Nat} {cur u inn : List Int} {ls : Int → Int → List Int}
theorem first_cls {w : List Int} {c p : Int} (i : Inv11 L w inn ls) (hc : 0 ≤ c ∧ c < 5) (hf : firstF ls c 1 (slotsC c).toNat = p) :
    (p = -1 ∧ ∀ q, 0 ≤ q → q < L.c.Pages → kw L w q = c + 1 → cw L w q = 0) ∨
    ((0 ≤ p ∧ p < L.c.Pages) ∧ (∃ m, ClsOK L w inn p c m) ∧ 1 ≤ cw L w p ∧ p ∈ ls c (cw L w p) ∧ ∀ q, 0 ≤ q → q < L.c.Pages → kw L w q = c + 1 → cw L w q = 0 ∨ cw L w p ≤ cw L w q) := by
  obtain ⟨s1, s2, s3⟩ := slots_pow hc
  have key : ∀ q, 0 ≤ q → q < L.c.Pages → kw L w q = c + 1 → cw L w q = 0 ∨ (isL c (cw L w q) ∧ q ∈ ls c (cw L w q)) := fun q h0 h1 hk => by
    rcases i.pg q h0 h1 with f | ⟨c', m, f⟩
    · have := f.kind; omega
    · have e1 : c' = c := by have := f.kind; omega
      subst e1
      have hl := f.linked; have hu := f.used; have := f.left; have := popN_le m (slotsC c').toNat
      by_cases z : cw L w q = 0
      · exact .inl z
      · rw [if_neg z] at hl
        have hL : isL c' (cw L w q) := ⟨hc, by omega, by omega⟩
        exact .inr ⟨hL, (i.rep.mem _ _ hL q).2 ⟨⟨h0, h1⟩, hl⟩⟩
  rcases firstF_is (ls := ls) (c := c) (slotsC c).toNat 1 with ⟨h1, h2⟩ | ⟨g, x, r, h1, h2, h3, h4, h5⟩
  · refine .inl ⟨by omega, fun q q0 q1 hk => ?_⟩
    rcases key q q0 q1 hk with z | ⟨hL, hm⟩
    · exact z
    · have := hL.2
      rw [h2 _ (by omega) (by omega)] at hm
      cases hm
  · have hL : isL c g := ⟨hc, h1, by omega⟩
    have hx : x ∈ ls c g := by rw [h3]; simp
    obtain ⟨hp, hl⟩ := (i.rep.mem c g hL x).1 hx
    have e : x = p := by omega
    subst e
    rcases i.pg x hp.1 hp.2 with f | ⟨c', m, f⟩
    · have := f.linked; omega
    · have hl' := f.linked; have hu := f.used; have hlf := f.left; have := popN_le m (slotsC c').toNat; have := slots_pow f.cls; have hc' := f.cls
      by_cases z : cw L w x = 0
      · rw [if_pos z] at hl'; omega
      · rw [if_neg z] at hl'
        have e1 : c' = c := by omega
        subst e1
        have e2 : cw L w x = g := by omega
        refine .inr ⟨hp, ⟨m, f⟩, by omega, by rw [e2]; exact hx, fun q q0 q1 hk => ?_⟩
        rcases key q q0 q1 hk with z | ⟨hL', hm⟩
        · exact .inl z
        · refine .inr (Int.not_lt.1 fun hlt => ?_)
          have := hL'.2
          rw [h5 _ (by omega) (by omega)] at hm
          cases hm
theorem find_free {w : List Int} {r : Int} (h : FindR L w 1 1 r) : (r = -1 ∧ ∀ q, 0 ≤ q → q < L.c.Pages → kw L w q ≠ 0) ∨ ((0 ≤ r ∧ r < L.c.Pages) ∧ kw L w r = 0) := by
  unfold FindR at h
  rw [if_pos (by omega)] at h
  rcases h with ⟨h0, h | ⟨h1, h2, h3, _⟩⟩ | ⟨_, ⟨h1, h2⟩ | ⟨h1, h2, h3, _⟩⟩
  · omega
  · have : knd L.at_1 L.c.Pages w r = 0 := (h3.all r (by omega) (by omega)).1
    rw [knd_in ⟨h1, h2⟩] at this
    exact .inr ⟨⟨h1, h2⟩, this⟩
  · refine .inl ⟨h1, fun q q0 q1 e => h2 q q0 q1 ⟨by omega, by omega, fun j j0 j1 => ?_⟩⟩
    have : j = q := by omega
    subst this
    show knd L.at_1 L.c.Pages w j = 0
    rw [knd_in ⟨q0, q1⟩]; exact e
  · have : knd L.at_1 L.c.Pages w r = 0 := h3.all r (by omega) (by omega)
    rw [knd_in ⟨h1, h2⟩] at this
    exact .inr ⟨⟨h1, h2⟩, this⟩
inductive GrabS (L : ya) (ls : Int → Int → List Int) (w : List Int) (c : Int) : Int → Bool → List Int → Prop
  | no : (¬ (0 ≤ c ∧ c < 5) ∨ (firstF ls c 1 (slotsC c).toNat = -1 ∧ ∀ q, 0 ≤ q → q < L.c.Pages → kw L w q ≠ 0)) → GrabS L ls w c 0 false w
  | old {p : Int} {m : Nat} {i : Int} : 0 ≤ c ∧ c < 5 → 0 ≤ p → firstF ls c 1 (slotsC c).toNat = p → bw L w p = m → IsFirst m (slotsC c).toNat i → 0 ≤ i →
      GrabS L ls w c (L.at_10 + p * 32 + i * sizeC c) true (turnW L (unl L ls w p c (cw L w p)) p c ((m + 2 ^ i.toNat : Nat) : Int) (cw L w p - 1))
  | new {p : Int} {u : List Int} : 0 ≤ c ∧ c < 5 → firstF ls c 1 (slotsC c).toNat = -1 → FindR L w 1 1 p → 0 ≤ p → TakeW L w u p 1 (c + 1) →
      GrabS L ls w c (L.at_10 + p * 32) true (turnW L (u.set (L.at_2 + p).toNat (slotsC c)) p c 1 (slotsC c - 1))
theorem GrabS.uniq {w : List Int} {c a a' : Int} {b b' : Bool} {x x' : List Int} (h : GrabS L ls w c a b x) (h' : GrabS L ls w c a' b' x') : a = a' ∧ b = b' ∧ x = x' := by
  cases h with
  | no h =>
    cases h' with
    | no _ => exact ⟨rfl, rfl, rfl⟩
    | old hc hp hf _ _ _ => rcases h with h | ⟨h, _⟩ <;> omega
    | new hc hf hr hp _ =>
      rcases h with h | ⟨_, h⟩
      · omega
      · rcases find_free hr with ⟨e, _⟩ | ⟨⟨e1, e2⟩, e3⟩
        · omega
        · exact (h _ e1 e2 e3).elim
  | @old p m i hc hp hf hb hi h0 =>
    cases h' with
    | no h => rcases h with h | ⟨h, _⟩ <;> omega
    | @old p' m' i' _ _ hf' hb' hi' _ =>
      have e1 : p = p' := by omega
      subst e1
      have e2 : m = m' := by omega
      subst e2
      have e3 := hi.uniq hi'
      subst e3
      exact ⟨rfl, rfl, rfl⟩
    | new _ hf' _ _ _ => omega
  | @new p u hc hf hr hp ht =>
    cases h' with
    | no h =>
      rcases h with h | ⟨_, h⟩
      · omega
      · rcases find_free hr with ⟨e, _⟩ | ⟨⟨e1, e2⟩, e3⟩
        · omega
        · exact (h _ e1 e2 e3).elim
    | old _ _ hf' _ _ _ => omega
    | @new p' u' _ _ hr' _ ht' =>
      have e1 := hr.uniq hr'
      subst e1
      have e2 : u = u' := ht.ran.uniq ht'.ran
      subst e2
      exact ⟨rfl, rfl, rfl⟩
theorem new_page {w u : List Int} {p c : Int} (h : LayOK L) (hn : L.at_11 ≤ (w.length : Int)) (hp : 0 ≤ p ∧ p < L.c.Pages) (hc : 0 ≤ c ∧ c < 5) (t : TakeW L w u p 1 (c + 1)) :
    u.length = w.length ∧ ∀ b, L.at_1 ≤ b → wd (u.set (L.at_2 + p).toNat (slotsC c)) b = if b = L.at_1 + p then c + 1 else if b = L.at_2 + p then slotsC c else if b = L.at_3 + p then 0 else wd w b := by
  have g := h.geo11; have hpg := h.pages; have gk := h.geoK
  have hl := t.len
  have he : (ensM w L.c.Pages L.at_0 p 1).2.length = w.length := by unfold ensM; exact ensG_len ..
  have r := t.ran
  have h6 : ¬ (c + 1 = 6) := by omega
  rw [if_neg h6] at r
  have e : u = setP L.at_1 L.c.Pages (ensM w L.c.Pages L.at_0 p 1).2 p (c + 1) 0 := by
    have z := Ran.zero L.at_1 L.c.Pages (setP L.at_1 L.c.Pages (ensM w L.c.Pages L.at_0 p 1).2 p (c + 1) 0) (p + 1) 7
    exact r.uniq z
  refine ⟨hl, fun b hb => ?_⟩
  rw [wd_set (by omega) (by omega), e, setP_wd (GeoKL h (by rw [he]; exact hn)) hp (by omega), ens_off (by omega) (by omega)]
  repeat' split
  all_goals first | rfl | omega
theorem isFirst_ge {m n : Nat} {i : Int} (hi : IsFirst m n i) (hp : popN m n < n) : 0 ≤ i ∧ i < n ∧ m.testBit i.toNat = false := by
  rcases hi with ⟨_, h⟩ | ⟨h1, h2, h3, _⟩
  · have := popN_all h; omega
  · exact ⟨h1, h2, h3⟩
theorem bit_lt {m n : Nat} {i : Int} (hm : m < 2 ^ n) (hi : 0 ≤ i ∧ i < n) (hb : m.testBit i.toNat = false) : m + 2 ^ i.toNat < 2 ^ n := by
  rw [← or_bit hb]
  exact Nat.or_lt_two_pow hm (Nat.pow_lt_pow_right (by decide) (by omega))
theorem GrabS.inv {w x : List Int} {c a : Int} {b : Bool} (h : LayOK L) (hn : L.at_11 ≤ (w.length : Int)) (i : Inv11 L w inn ls) (s : GrabS L ls w c a b x) : x.length = w.length ∧ ∃ inn' ls', Inv11 L x inn' ls' := by
  have g := h.geo11; have hpg := h.pages
  cases s with
  | no _ => exact ⟨rfl, _, _, i⟩
  | @old p m j hc hp hf hb hj h0 =>
    rcases first_cls i hc hf with ⟨e, _⟩ | ⟨hp, ⟨m', f⟩, h1, _, _⟩
    · omega
    · have e : m' = m := by have := f.bits; omega
      subst e
      obtain ⟨s1, s2, s3⟩ := slots_pow hc
      have hlf := f.left
      obtain ⟨_, j2, j3⟩ := isFirst_ge hj (by omega)
      obtain ⟨ls', r1, hlen, hoff⟩ := cls_rep h hn i.rep hp f
      have hadd := popN_add (m := m') (k := (slotsC c).toNat) (i := j.toNat) (by omega) j3
      refine ⟨by rw [turnW_len, hlen], turn_inv h hn hp (fun q h0 h1 _ => i.pg q h0 h1) r1 hlen hoff hc f.kind (bit_lt f.lt ⟨h0, j2⟩ j3) (by omega)⟩
  | @new p u hc hf hr hp ht =>
    rcases find_free hr with ⟨e, _⟩ | ⟨hp, hk⟩
    · omega
    · obtain ⟨hl, hw⟩ := new_page h hn hp hc ht
      obtain ⟨s1, s2, s3⟩ := slots_pow hc
      generalize hv : u.set (L.at_2 + p).toNat (slotsC c) = v at *
      have hvl : v.length = w.length := by rw [← hv, List.length_set, hl]
      have f : FreeOK L w inn p := by
        rcases i.pg p hp.1 hp.2 with f | ⟨c', m, f⟩
        · exact f
        · have := f.kind; have := f.cls; omega
      have e0 : inn.set p.toNat 0 = inn := wd_ext (by simp) (fun b hb => by
        have := i.rep.len
        rw [wd_set (by omega) hb]
        split
        · rename_i e; rw [e, f.linked]
        · rfl)
      have rv : RepW L.at_4 L.c.Pages v inn ls := i.rep.congr (by omega) (by omega) (fun b h0 h1 => by rw [hw b (by omega), if_neg (by omega), if_neg (by omega), if_neg (by omega)])
      have hb1 : popN 1 (slotsC c).toNat = 1 := by
        have := popN_add (m := 0) (k := (slotsC c).toNat) (i := 0) (by omega) (by simp)
        rw [popN_zero] at this
        exact this
      refine ⟨by rw [turnW_len, hvl], turn_inv (w := v) (w1 := v) (inn := inn) (ls1 := ls) (m := 1) h (by omega) hp (fun q h0 h1 hq => ?_) (by rw [e0]; exact rv) rfl (fun _ _ _ => rfl) hc ?_ (Nat.one_lt_two_pow (by omega)) (by omega)⟩
      · have e1 : kw L v q = kw L w q := by unfold kw; rw [hw _ (by omega), if_neg (by omega), if_neg (by omega), if_neg (by omega)]
        have e2 : cw L v q = cw L w q := by unfold cw; rw [hw _ (by omega), if_neg (by omega), if_neg (by omega), if_neg (by omega)]
        have e3 : bw L v q = bw L w q := by unfold bw; rw [hw _ (by omega), if_neg (by omega), if_neg (by omega), if_neg (by omega)]
        rcases i.pg q h0 h1 with f | ⟨c', m', f⟩
        · exact .inl ⟨e1.trans f.kind, e3.trans f.bits, e2.trans f.left, f.linked⟩
        · exact .inr ⟨c', m', f.cls, e1.trans f.kind, e3.trans f.bits, f.lt, e2.trans f.left, by rw [e2]; exact f.used, by rw [e2]; exact f.linked⟩
      · unfold kw; rw [hw _ (by omega), if_pos rfl]
end Go.Rx
end

section
namespace Go.Rx
variable {L : ya} {nw : Nat} {cur u inn : List Int} {ls : Int → Int → List Int}
theorem mul_size {c i : Int} (hc : 0 ≤ c ∧ c < 5) (hi : 0 ≤ i ∧ i < slotsC c) : 0 ≤ i * sizeC c ∧ i * sizeC c + sizeC c ≤ 32 := by
  have e : c = 0 ∨ c = 1 ∨ c = 2 ∨ c = 3 ∨ c = 4 := by omega
  rcases e with rfl | rfl | rfl | rfl | rfl <;> simp [sizeC, slotsC] at * <;> omega
theorem grab_core {x inn1 : List Int} {ls1 : Int → Int → List Int} {p c : Int} {m : Nat} (ho : y1j nw cur L c = some (L, p, c, true, x)) (v : VOK L nw x) (r : RepW L.at_4 L.c.Pages x inn ls) (hp : 0 ≤ p ∧ p < L.c.Pages)
    (hc : 0 ≤ c ∧ c < 5) (hk : kw L x p = c + 1) (hb : bw L x p = m) (hm : m < 2 ^ (slotsC c).toNat) (hlt : popN m (slotsC c).toNat < (slotsC c).toNat) (hcw : cw L x p = slotsC c - popN m (slotsC c).toNat)
    (r1 : RepW L.at_4 L.c.Pages (unl L ls x p c (cw L x p)) inn1 ls1) (hlen : (unl L ls x p c (cw L x p)).length = x.length)
    (hoff : ∀ b, 0 ≤ b → (b < L.at_4 ∨ L.at_4 + 2 * L.c.Pages + 62 ≤ b) → wd (unl L ls x p c (cw L x p)) b = wd x b) :
    ∃ i, IsFirst m (slotsC c).toNat i ∧ 0 ≤ i ∧ y01 nw cur L c = some (L.at_10 + p * 32 + i * sizeC c, true, turnW L (unl L ls x p c (cw L x p)) p c ((m + 2 ^ i.toNat : Nat) : Int) (cw L x p - 1)) := by
  have g := v.lay.geo11
  obtain ⟨s1, s2, s3⟩ := slots_pow hc
  have h4 := bits_lt hm s1
  obtain ⟨i, e1, e2⟩ := First_is (m := m) (n := (slotsC c).toNat) h4 s1
  obtain ⟨i0, i1, i2⟩ := isFirst_ge e2 hlt
  rw [s3] at e1
  refine ⟨i, e2, i0, ?_⟩
  unfold y01
  rw [ho, Option.bind_some]
  simp only [cond_true]
  have hmul := mul_size hc (i := i) ⟨i0, by omega⟩
  have hsz := sizeC_in hc
  rw [bits_eq v hp, Option.bind_some, Slots_eq, Option.bind_some, hb, e1, Option.bind_some, Option.bind_some, Set_eq h4 ⟨i0, by omega⟩ i2, Option.bind_some, left_eq v hp, Option.bind_some, wrap_id (by omega) (by omega), pturn_eq v r hp hc hk r1 hlen hoff, Option.bind_some,
    Addr_eq v.lay, Option.bind_some, Size_eq, Option.bind_some]
  rw [show (if c = 0 then 1 else if c = 1 then 2 else if c = 2 then 4 else if c = 3 then 8 else if c = 4 then 16 else 0) = sizeC c from rfl]
  unfold lAddr
  rw [if_pos hp, wrap_id (x := i * sizeC c) (by omega) (by omega), wrap_id (by omega) (by omega)]
theorem pGrab_eq (v : VOK L nw cur) (i : Inv11 L cur inn ls) (c : Int) : ∃ a b x, y01 nw cur L c = some (a, b, x) ∧ GrabS L ls cur c a b x := by
  have g := v.lay.geo11
  have hn : L.at_11 ≤ (cur.length : Int) := by have := v.len; have := v.all; omega
  by_cases hc : 0 ≤ c ∧ c < 5
  rotate_left
  · have ho : ∃ L0, y1j nw cur L c = some (L0, 0, 0, false, cur) := by
      unfold y1j
      rw [Size_eq, Option.bind_some, show (if c = 0 then 1 else if c = 1 then 2 else if c = 2 then 4 else if c = 3 then 8 else if c = 4 then 16 else 0) = sizeC c from rfl, sizeC_no hc]
      exact ⟨_, rfl⟩
    obtain ⟨L0, ho⟩ := ho
    refine ⟨_, _, _, ?_, .no (.inl hc)⟩
    unfold y01
    rw [ho, Option.bind_some]
    rfl
  obtain ⟨z1, z2, z3⟩ := sizeC_in hc
  obtain ⟨s1, s2, s3⟩ := slots_pow hc
  have hsz : (if c = 0 then 1 else if c = 1 then 2 else if c = 2 then 4 else if c = 3 then 8 else if c = 4 then 16 else 0) = sizeC c := rfl
  rcases first_cls i hc rfl with ⟨hf, _⟩ | ⟨hp, ⟨m, f⟩, h1, hmem, _⟩
  · obtain ⟨p, e1, e2⟩ := eFind_eq v 1 1
    rcases find_free e2 with ⟨e3, e4⟩ | ⟨hp, hk⟩
    · have hno : ¬ MayTake L cur p 1 (c + 1) := fun h => by
        have := h.2.2.span
        omega
      have ho : ∃ L0, y1j nw cur L c = some (L0, 0, 0, false, cur) := by
        unfold y1j
        rw [Size_eq, Option.bind_some, hsz, beq_eq_false_iff_ne.2 (show sizeC c ≠ 0 by omega), cond_false, pFirst_eq v (ls := ls) (fun f k => i.rep.lst _ _ k), Option.bind_some, hf, decide_eq_false (by omega), cond_false, e1, Option.bind_some, wrap_id (by omega) (by omega), eTake_no v hno]
        exact ⟨_, rfl⟩
      obtain ⟨L0, ho⟩ := ho
      refine ⟨_, _, _, ?_, .no (.inr ⟨hf, e4⟩)⟩
      unfold y01
      rw [ho, Option.bind_some]
      rfl
    · have hyes : MayTake L cur p 1 (c + 1) := ⟨by omega, fun _ => rfl, ⟨by omega, fun j j0 j1 => by
        have : p + j = p := by omega
        rw [this]; exact hk⟩⟩
      obtain ⟨u, t1, t2⟩ := eTake_yes v hyes (by have := v.lay.pages; unfold I64; omega)
      obtain ⟨hl, hw⟩ := new_page v.lay hn hp hc t2
      have ho : y1j nw cur L c = some (L, p, c, true, u.set (L.at_2 + p).toNat (slotsC c)) := by
        unfold y1j
        rw [Size_eq, Option.bind_some, hsz, beq_eq_false_iff_ne.2 (show sizeC c ≠ 0 by omega), cond_false, pFirst_eq v (ls := ls) (fun f k => i.rep.lst _ _ k), Option.bind_some, hf, decide_eq_false (by omega), cond_false, e1, Option.bind_some, wrap_id (by omega) (by omega), t1, Option.bind_some]
        simp only [Bool.not_true, cond_false]
        rw [Count_eq v.lay, Option.bind_some, Slots_eq, Option.bind_some, lPg_in hp, (page_at v hp).2.1]
        rfl
      have f : FreeOK L cur inn p := by
        rcases i.pg p hp.1 hp.2 with f | ⟨c', m, f⟩
        · exact f
        · have := f.kind; have := f.cls; omega
      have ec : cw L (u.set (L.at_2 + p).toNat (slotsC c)) p = slotsC c := by unfold cw; rw [hw _ (by omega), if_neg (by omega), if_pos rfl]
      have ek : kw L (u.set (L.at_2 + p).toNat (slotsC c)) p = c + 1 := by unfold kw; rw [hw _ (by omega), if_pos rfl]
      have eb : bw L (u.set (L.at_2 + p).toNat (slotsC c)) p = ((0 : Nat) : Int) := by unfold bw; rw [hw _ (by omega), if_neg (by omega), if_neg (by omega), if_pos rfl]; rfl
      have en : unl L ls (u.set (L.at_2 + p).toNat (slotsC c)) p c (slotsC c) = u.set (L.at_2 + p).toNat (slotsC c) := by
        unfold unl
        rw [if_neg]
        rintro ⟨hL, hm⟩
        have := ((i.rep.mem _ _ hL p).1 hm).2
        have := f.linked
        omega
      have rv : RepW L.at_4 L.c.Pages (u.set (L.at_2 + p).toNat (slotsC c)) inn ls := i.rep.congr (by omega) (by omega) (fun b h0 h1 => by rw [hw b (by omega), if_neg (by omega), if_neg (by omega), if_neg (by omega)])
      have vv : VOK L nw (u.set (L.at_2 + p).toNat (slotsC c)) := ⟨v.lay, by rw [List.length_set, hl]; exact v.len, v.all⟩
      have hz := popN_zero (slotsC c).toNat
      obtain ⟨j, j1, j2, j3⟩ := grab_core (inn1 := inn) (ls1 := ls) ho vv rv hp hc ek eb (Nat.two_pow_pos _) (by omega) (by rw [ec]; omega) (by rw [ec, en]; exact rv) (by rw [ec, en]) (fun b _ _ => by rw [ec, en])
      have ej : j = 0 := j1.uniq (.inr ⟨by omega, by omega, by simp, fun k hk => by omega⟩)
      subst ej
      rw [ec, en] at j3
      refine ⟨_, _, _, j3, ?_⟩
      have := GrabS.new (w := cur) (ls := ls) hc hf e2 hp.1 t2
      rw [show L.at_10 + p * 32 + 0 * sizeC c = L.at_10 + p * 32 by omega]
      exact this
  · have hlf := f.left
    obtain ⟨ls', r1, hlen, hoff⟩ := cls_rep v.lay hn i.rep hp f
    generalize hpp : firstF ls c 1 (slotsC c).toNat = p at *
    have ho : y1j nw cur L c = some (L, p, c, true, cur) := by
      unfold y1j
      rw [Size_eq, Option.bind_some, hsz, beq_eq_false_iff_ne.2 (show sizeC c ≠ 0 by omega), cond_false, pFirst_eq v (ls := ls) (fun f k => i.rep.lst _ _ k), Option.bind_some, hpp, decide_eq_true (show p ≥ 0 by omega), cond_true]
    obtain ⟨j, j1, j2, j3⟩ := grab_core ho v i.rep hp hc f.kind f.bits f.lt (by omega) hlf r1 hlen hoff
    exact ⟨_, _, _, j3, .old hc hp.1 hpp f.bits j1 j2⟩
end Go.Rx
end

noncomputable section
namespace Go.Rx
open Go.Proofs
set_option maxRecDepth 100000
set_option maxHeartbeats 4000000
def y3m (l2 : yf) (a : Int) (w : List Int) : Option (Int × Bool) :=
  ((y5t l2 a).bind fun y0 => (bif (!y0.2.2) then some (0, false) else ((y4b l2 y0.1).bind fun y1 => (bif (inR y1 w.length) then (bif (inR (offs y1 0) w.length) then ((y3o (IntKind.i64.wrap (w.getD (offs y1 0).toNat 0 - 1))).bind fun y2 => (bif (y2 == 0) then some (0, false) else (bif (!y2 == 0) then (bif (Int.tmod y0.2.1 y2 != 0) then some (0, false) else (bif (!y2 == 0) then ((y1o l2 y0.1).bind fun y3 => (bif (inR y3 w.length) then (bif (inR (offs y3 0) w.length) then ((y4d (w.getD (offs y3 0).toNat 0) (IntKind.i64.wrap (Int.tdiv y0.2.1 y2))).bind fun y4 => (bif (!y4) then some (0, false) else some ((IntKind.i64.wrap (w.getD (offs y1 0).toNat 0 - 1)), true))) else none) else none)) else none)) else none))) else none) else none))))
def y4e (l2 : yf) (c : Int) (w : List Int) : Option Bool :=
  ((y57 l2 c w).bind fun y0 => some (decide (y0 ≥ 0)))
def ya1 (l2 : yf) (c : Int) (w : List Int) (n p : Int) : Option ((Int × Int) ⊕ Int) :=
  (bif (decide (p < l2.C.Pages)) then (bif (decide (c ≥ 0)) then (bif (decide (c < 5)) then ((y4b l2 p).bind fun y0 => (bif (inR y0 w.length) then (bif (inR (offs y0 0) w.length) then (bif (w.getD (offs y0 0).toNat 0 == IntKind.i64.wrap (c + 1)) then ((y3p c).bind fun y1 => ((y1o l2 p).bind fun y2 => (bif (inR y2 w.length) then (bif (inR (offs y2 0) w.length) then ((y3p c).bind fun y3 => ((y8w (w.getD (offs y2 0).toNat 0) y3).bind fun y4 => some (.inl ((IntKind.i64.wrap (IntKind.i64.wrap (n + y1) - y4)), (IntKind.i64.wrap (p + 1)))))) else none) else none))) else some (.inl (n, (IntKind.i64.wrap (p + 1))))) else none) else none)) else some (.inl (n, (IntKind.i64.wrap (p + 1))))) else some (.inl (n, (IntKind.i64.wrap (p + 1))))) else some (.inr n))
def ybw (l2 : yf) (c : Int) (w : List Int) (s : Int × Int) : Option Int :=
  loopO (fun s => ya1 l2 c w s.1 s.2) s
def y4v (l2 : yf) (c : Int) (w : List Int) : Option Int :=
  (ybw l2 c w (0, 0))
def y3x (l2 : yf) (c : Int) (w : List Int) : Option (Int × Bool × (List Int)) :=
  ((y3o c).bind fun y0 => (bif (y0 == 0) then some (0, false, w) else ((y57 l2 c w).bind fun y1 => (bif (decide (y1 < 0)) then ((y6t l2 1 1 w).bind fun y2 => (bif (decide (y2 < 0)) then some (0, false, w) else ((yad l2 y2 1 (IntKind.i64.wrap (c + 1)) w).bind fun y3 => ((y1q l2 y2).bind fun y4 => ((y3p c).bind fun y5 => (bif (inR y4 y3.2.length) then (bif (inR (offs y4 0) y3.2.length) then ((y1o l2 y2).bind fun y6 => (bif (inR y6 (List.length (List.set y3.2 (offs y4 0).toNat y5))) then (bif (inR (offs y6 0) (List.length (List.set y3.2 (offs y4 0).toNat y5))) then ((y3p c).bind fun y7 => ((y5y (List.getD (List.set y3.2 (offs y4 0).toNat y5) (offs y6 0).toNat 0) y7).bind fun y8 => ((y1o l2 y2).bind fun y9 => ((y1o l2 y2).bind fun y10 => (bif (inR y10 (List.length (List.set y3.2 (offs y4 0).toNat y5))) then (bif (inR (offs y10 0) (List.length (List.set y3.2 (offs y4 0).toNat y5))) then ((y5g (List.getD (List.set y3.2 (offs y4 0).toNat y5) (offs y10 0).toNat 0) y8).bind fun y11 => (bif (inR y9 (List.length (List.set y3.2 (offs y4 0).toNat y5))) then (bif (inR (offs y9 0) (List.length (List.set y3.2 (offs y4 0).toNat y5))) then ((y1q l2 y2).bind fun y12 => (bif (inR y12 (List.length (List.set (List.set y3.2 (offs y4 0).toNat y5) (offs y9 0).toNat y11))) then (bif (inR (offs y12 0) (List.length (List.set (List.set y3.2 (offs y4 0).toNat y5) (offs y9 0).toNat y11))) then (bif (inR y12 (List.length (List.set (List.set y3.2 (offs y4 0).toNat y5) (offs y9 0).toNat y11))) then (bif (inR (offs y12 0) (List.length (List.set (List.set y3.2 (offs y4 0).toNat y5) (offs y9 0).toNat y11))) then ((y1q l2 y2).bind fun y13 => (bif (inR y13 (List.length (List.set (List.set (List.set y3.2 (offs y4 0).toNat y5) (offs y9 0).toNat y11) (offs y12 0).toNat (IntKind.i64.wrap (List.getD (List.set (List.set y3.2 (offs y4 0).toNat y5) (offs y9 0).toNat y11) (offs y12 0).toNat 0 - 1))))) then (bif (inR (offs y13 0) (List.length (List.set (List.set (List.set y3.2 (offs y4 0).toNat y5) (offs y9 0).toNat y11) (offs y12 0).toNat (IntKind.i64.wrap (List.getD (List.set (List.set y3.2 (offs y4 0).toNat y5) (offs y9 0).toNat y11) (offs y12 0).toNat 0 - 1))))) then ((y4r l2 y2 c (List.getD (List.set (List.set (List.set y3.2 (offs y4 0).toNat y5) (offs y9 0).toNat y11) (offs y12 0).toNat (IntKind.i64.wrap (List.getD (List.set (List.set y3.2 (offs y4 0).toNat y5) (offs y9 0).toNat y11) (offs y12 0).toNat 0 - 1))) (offs y13 0).toNat 0) (List.set (List.set (List.set y3.2 (offs y4 0).toNat y5) (offs y9 0).toNat y11) (offs y12 0).toNat (IntKind.i64.wrap (List.getD (List.set (List.set y3.2 (offs y4 0).toNat y5) (offs y9 0).toNat y11) (offs y12 0).toNat 0 - 1)))).bind fun y14 => ((y5f l2 y2).bind fun y15 => ((y3o c).bind fun y16 => some ((IntKind.i64.wrap (y15 + IntKind.i64.wrap (y8 * y16))), true, y14.2)))) else none) else none)) else none) else none) else none) else none)) else none) else none)) else none) else none))))) else none) else none)) else none) else none)))))) else ((y1q l2 y1).bind fun y17 => (bif (inR y17 w.length) then (bif (inR (offs y17 0) w.length) then ((y5w l2 y1 c (w.getD (offs y17 0).toNat 0) w).bind fun y18 => ((y1o l2 y1).bind fun y19 => (bif (inR y19 y18.2.length) then (bif (inR (offs y19 0) y18.2.length) then ((y3p c).bind fun y20 => ((y5y (y18.2.getD (offs y19 0).toNat 0) y20).bind fun y21 => ((y1o l2 y1).bind fun y22 => ((y1o l2 y1).bind fun y23 => (bif (inR y23 y18.2.length) then (bif (inR (offs y23 0) y18.2.length) then ((y5g (y18.2.getD (offs y23 0).toNat 0) y21).bind fun y24 => (bif (inR y22 y18.2.length) then (bif (inR (offs y22 0) y18.2.length) then ((y1q l2 y1).bind fun y25 => (bif (inR y25 (List.length (List.set y18.2 (offs y22 0).toNat y24))) then (bif (inR (offs y25 0) (List.length (List.set y18.2 (offs y22 0).toNat y24))) then (bif (inR y25 (List.length (List.set y18.2 (offs y22 0).toNat y24))) then (bif (inR (offs y25 0) (List.length (List.set y18.2 (offs y22 0).toNat y24))) then ((y1q l2 y1).bind fun y26 => (bif (inR y26 (List.length (List.set (List.set y18.2 (offs y22 0).toNat y24) (offs y25 0).toNat (IntKind.i64.wrap (List.getD (List.set y18.2 (offs y22 0).toNat y24) (offs y25 0).toNat 0 - 1))))) then (bif (inR (offs y26 0) (List.length (List.set (List.set y18.2 (offs y22 0).toNat y24) (offs y25 0).toNat (IntKind.i64.wrap (List.getD (List.set y18.2 (offs y22 0).toNat y24) (offs y25 0).toNat 0 - 1))))) then ((y4r l2 y1 c (List.getD (List.set (List.set y18.2 (offs y22 0).toNat y24) (offs y25 0).toNat (IntKind.i64.wrap (List.getD (List.set y18.2 (offs y22 0).toNat y24) (offs y25 0).toNat 0 - 1))) (offs y26 0).toNat 0) (List.set (List.set y18.2 (offs y22 0).toNat y24) (offs y25 0).toNat (IntKind.i64.wrap (List.getD (List.set y18.2 (offs y22 0).toNat y24) (offs y25 0).toNat 0 - 1)))).bind fun y27 => ((y5f l2 y1).bind fun y28 => ((y3o c).bind fun y29 => some ((IntKind.i64.wrap (y28 + IntKind.i64.wrap (y21 * y29))), true, y27.2)))) else none) else none)) else none) else none) else none) else none)) else none) else none)) else none) else none))))) else none) else none))) else none) else none))))))
def y4c (l2 : yf) (a : Int) (w : List Int) : Option (Bool × (List Int)) :=
  ((y3m l2 a w).bind fun y0 => (bif (!y0.2) then some (false, w) else ((y5t l2 a).bind fun y1 => ((y1q l2 y1.1).bind fun y2 => (bif (inR y2 w.length) then (bif (inR (offs y2 0) w.length) then ((y5w l2 y1.1 y0.1 (w.getD (offs y2 0).toNat 0) w).bind fun y3 => ((y1o l2 y1.1).bind fun y4 => ((y1o l2 y1.1).bind fun y5 => (bif (inR y5 y3.2.length) then (bif (inR (offs y5 0) y3.2.length) then ((y3o y0.1).bind fun y6 => (bif (!y6 == 0) then ((y8x (y3.2.getD (offs y5 0).toNat 0) (IntKind.i64.wrap (Int.tdiv y1.2.1 y6))).bind fun y7 => (bif (inR y4 y3.2.length) then (bif (inR (offs y4 0) y3.2.length) then ((y1q l2 y1.1).bind fun y8 => (bif (inR y8 (List.length (List.set y3.2 (offs y4 0).toNat y7))) then (bif (inR (offs y8 0) (List.length (List.set y3.2 (offs y4 0).toNat y7))) then (bif (inR y8 (List.length (List.set y3.2 (offs y4 0).toNat y7))) then (bif (inR (offs y8 0) (List.length (List.set y3.2 (offs y4 0).toNat y7))) then ((y1q l2 y1.1).bind fun y9 => (bif (inR y9 (List.length (List.set (List.set y3.2 (offs y4 0).toNat y7) (offs y8 0).toNat (IntKind.i64.wrap (List.getD (List.set y3.2 (offs y4 0).toNat y7) (offs y8 0).toNat 0 + 1))))) then (bif (inR (offs y9 0) (List.length (List.set (List.set y3.2 (offs y4 0).toNat y7) (offs y8 0).toNat (IntKind.i64.wrap (List.getD (List.set y3.2 (offs y4 0).toNat y7) (offs y8 0).toNat 0 + 1))))) then ((y3p y0.1).bind fun y10 => (bif (List.getD (List.set (List.set y3.2 (offs y4 0).toNat y7) (offs y8 0).toNat (IntKind.i64.wrap (List.getD (List.set y3.2 (offs y4 0).toNat y7) (offs y8 0).toNat 0 + 1))) (offs y9 0).toNat 0 == y10) then ((y9k l2 y1.1 (List.set (List.set y3.2 (offs y4 0).toNat y7) (offs y8 0).toNat (IntKind.i64.wrap (List.getD (List.set y3.2 (offs y4 0).toNat y7) (offs y8 0).toNat 0 + 1)))).bind fun y11 => some (true, y11.2)) else ((y1q l2 y1.1).bind fun y12 => (bif (inR y12 (List.length (List.set (List.set y3.2 (offs y4 0).toNat y7) (offs y8 0).toNat (IntKind.i64.wrap (List.getD (List.set y3.2 (offs y4 0).toNat y7) (offs y8 0).toNat 0 + 1))))) then (bif (inR (offs y12 0) (List.length (List.set (List.set y3.2 (offs y4 0).toNat y7) (offs y8 0).toNat (IntKind.i64.wrap (List.getD (List.set y3.2 (offs y4 0).toNat y7) (offs y8 0).toNat 0 + 1))))) then ((y4r l2 y1.1 y0.1 (List.getD (List.set (List.set y3.2 (offs y4 0).toNat y7) (offs y8 0).toNat (IntKind.i64.wrap (List.getD (List.set y3.2 (offs y4 0).toNat y7) (offs y8 0).toNat 0 + 1))) (offs y12 0).toNat 0) (List.set (List.set y3.2 (offs y4 0).toNat y7) (offs y8 0).toNat (IntKind.i64.wrap (List.getD (List.set y3.2 (offs y4 0).toNat y7) (offs y8 0).toNat 0 + 1)))).bind fun y13 => some (true, y13.2)) else none) else none)))) else none) else none)) else none) else none) else none) else none)) else none) else none)) else none)) else none) else none)))) else none) else none)))))
attribute [local irreducible] Loop ex exF contK roundK retK at_ bodyOf mkEnv
end Go.Rx
end

section
namespace Go.Rx
open Go.Proofs
section
variable {c : yb} {w inn : List Int} {ls : Int → Int → List Int}
theorem rAddr_eq (h : RightC c) (p : Int) : y5f ⟨c⟩ p = some (lAddr (layC c) p) := by
  unfold y5f
  have hb := (layC_ok h).big; have ha := (layC_ok h).a11; have hp := h.pages
  have e0 : (layC c).c = c := rfl
  rw [e0] at ha
  simp only [rUser_eq h, Option.bind_some, rat_eq, lAddr, e0]
  by_cases x : 0 ≤ p
  · rw [decide_eq_true (show p ≥ 0 from x), cond_true]
    by_cases b : p < c.Pages
    · rw [decide_eq_true b, if_pos rfl, if_pos ⟨x, b⟩, wrap_id (x := 32 * p) (by omega) (by omega), wrap_id (by omega) (by omega), Int.mul_comm]
    · rw [decide_eq_false b, if_neg (by decide), if_neg (by omega)]
  · rw [decide_eq_false (show ¬ p ≥ 0 from x), cond_false, if_neg (by decide), if_neg (by omega)]
theorem rPlace_eq (h : RightC c) (a : Int) : y5t ⟨c⟩ a = some (lPlace (layC c) a) := by
  unfold y5t
  have hb := (layC_ok h).big; have ha := (layC_ok h).a11; have hp := h.pages
  have e0 : (layC c).c = c := rfl
  rw [e0] at ha
  simp only [rUser_eq h, rWords_eq h, Option.bind_some, lPlace]
  by_cases x : a < (layC c).at_10
  · rw [decide_eq_true x, cond_true, if_neg (by omega)]
  · rw [decide_eq_false x, cond_false]
    by_cases b : a ≥ (layC c).at_11
    · rw [decide_eq_true b, cond_true, if_neg (by omega)]
    · rw [decide_eq_false b, cond_false, if_pos (by omega), wrap_id (x := a - (layC c).at_10) (by omega) (by omega), Int.tdiv_eq_ediv_of_nonneg (by omega), Int.tmod_eq_emod_of_nonneg (by omega), wrap_id (by omega) (by omega)]
theorem rSize_eq (q : Int) : y3o q = some (sizeC q) := by
  unfold y3o
  by_cases a : q < 0
  · rw [decide_eq_true a, cond_true, sizeC_no (by omega)]
  rw [decide_eq_false a, cond_false]
  by_cases b : q > 4
  · rw [decide_eq_true b, cond_true, sizeC_no (by omega)]
  rw [decide_eq_false b, cond_false]
  have e : q = 0 ∨ q = 1 ∨ q = 2 ∨ q = 3 ∨ q = 4 := by omega
  rcases e with rfl | rfl | rfl | rfl | rfl
  · exact loopO_end rfl
  · exact (loopO_go rfl).trans (loopO_end rfl)
  · exact (loopO_go rfl).trans ((loopO_go rfl).trans (loopO_end rfl))
  · exact (loopO_go rfl).trans ((loopO_go rfl).trans ((loopO_go rfl).trans (loopO_end rfl)))
  · exact (loopO_go rfl).trans ((loopO_go rfl).trans ((loopO_go rfl).trans ((loopO_go rfl).trans (loopO_end rfl))))
theorem rSlots3_eq (q : Int) : y3p q = some (slotsC q) := by
  unfold y3p
  by_cases a : q < 0
  · rw [decide_eq_true a, cond_true, slotsC_no (by omega)]
  rw [decide_eq_false a, cond_false]
  by_cases b : q > 4
  · rw [decide_eq_true b, cond_true, slotsC_no (by omega)]
  rw [decide_eq_false b, cond_false, rSize_eq, Option.bind_some]
  have e : q = 0 ∨ q = 1 ∨ q = 2 ∨ q = 3 ∨ q = 4 := by omega
  rcases e with rfl | rfl | rfl | rfl | rfl <;> rfl
theorem rpage_at (h : RightC c) (v : VOK (layC c) w.length w) {p : Int} (hp : 0 ≤ p ∧ p < c.Pages) :
    (y4b ⟨c⟩ p = some ((layC c).at_1 + p) ∧ y1q ⟨c⟩ p = some ((layC c).at_2 + p) ∧ y1o ⟨c⟩ p = some ((layC c).at_3 + p)) ∧
    (offs ((layC c).at_1 + p) 0 = (layC c).at_1 + p ∧ offs ((layC c).at_2 + p) 0 = (layC c).at_2 + p ∧ offs ((layC c).at_3 + p) 0 = (layC c).at_3 + p) ∧
    (inR ((layC c).at_1 + p) w.length = true ∧ inR ((layC c).at_2 + p) w.length = true ∧ inR ((layC c).at_3 + p) w.length = true) := by
  have g := v.lay.geo11; have hpg := h.pages
  have e0 : (layC c).c = c := rfl
  rw [e0] at g
  refine ⟨⟨?_, ?_, ?_⟩, ⟨offs_id (by omega), offs_id (by omega), offs_id (by omega)⟩, page_at v hp⟩
  · rw [rKind_eq h, lPg_in (L := layC c) hp]
  · rw [rCount_eq h, lPg_in (L := layC c) hp]
  · rw [rBits_eq h, lPg_in (L := layC c) hp]
noncomputable def grabT (c : yb) (p q : Int) (x : List Int) : Option (Int × Bool × List Int) :=
  ((y1o ⟨c⟩ p).bind fun y19 => (bif (inR y19 (List.length x)) then (bif (inR (offs y19 0) (List.length x)) then ((y3p q).bind fun y20 => ((y5y (List.getD x (Int.toNat (offs y19 0)) 0) y20).bind fun y21 => ((y1o ⟨c⟩ p).bind fun y22 => ((y1o ⟨c⟩ p).bind fun y23 => (bif (inR y23 (List.length x)) then (bif (inR (offs y23 0) (List.length x)) then ((y5g (List.getD x (Int.toNat (offs y23 0)) 0) y21).bind fun y24 => (bif (inR y22 (List.length x)) then (bif (inR (offs y22 0) (List.length x)) then ((y1q ⟨c⟩ p).bind fun y25 => (bif (inR y25 (List.length (List.set x (Int.toNat (offs y22 0)) y24))) then (bif (inR (offs y25 0) (List.length (List.set x (Int.toNat (offs y22 0)) y24))) then (bif (inR y25 (List.length (List.set x (Int.toNat (offs y22 0)) y24))) then (bif (inR (offs y25 0) (List.length (List.set x (Int.toNat (offs y22 0)) y24))) then ((y1q ⟨c⟩ p).bind fun y26 => (bif (inR y26 (List.length (List.set (List.set x (Int.toNat (offs y22 0)) y24) (Int.toNat (offs y25 0)) (IntKind.wrap IntKind.i64 (List.getD (List.set x (Int.toNat (offs y22 0)) y24) (Int.toNat (offs y25 0)) 0 - 1))))) then (bif (inR (offs y26 0) (List.length (List.set (List.set x (Int.toNat (offs y22 0)) y24) (Int.toNat (offs y25 0)) (IntKind.wrap IntKind.i64 (List.getD (List.set x (Int.toNat (offs y22 0)) y24) (Int.toNat (offs y25 0)) 0 - 1))))) then ((y4r ⟨c⟩ p q (List.getD (List.set (List.set x (Int.toNat (offs y22 0)) y24) (Int.toNat (offs y25 0)) (IntKind.wrap IntKind.i64 (List.getD (List.set x (Int.toNat (offs y22 0)) y24) (Int.toNat (offs y25 0)) 0 - 1))) (Int.toNat (offs y26 0)) 0) (List.set (List.set x (Int.toNat (offs y22 0)) y24) (Int.toNat (offs y25 0)) (IntKind.wrap IntKind.i64 (List.getD (List.set x (Int.toNat (offs y22 0)) y24) (Int.toNat (offs y25 0)) 0 - 1)))).bind fun y27 => ((y5f ⟨c⟩ p).bind fun y28 => ((y3o q).bind fun y29 => some (((IntKind.wrap IntKind.i64 (y28 + IntKind.wrap IntKind.i64 (y21 * y29))), (Bool.true), (Prod.snd y27)))))) else none) else none)) else none) else none) else none) else none)) else none) else none)) else none) else none))))) else none) else none))
theorem grabT_eq (h : RightC c) {x inn1 : List Int} {ls1 : Int → Int → List Int} {p q i : Int} {m : Nat} (v : VOK (layC c) x.length x) (r1 : RepW (layC c).at_4 c.Pages x inn1 ls1) (hz : wd inn1 p = 0) (hp : 0 ≤ p ∧ p < c.Pages)
    (hq : 0 ≤ q ∧ q < 5) (hb : bw (layC c) x p = m) (hm : m < 2 ^ (slotsC q).toNat) (hlt : popN m (slotsC q).toNat < (slotsC q).toNat) (hcw : cw (layC c) x p = slotsC q - popN m (slotsC q).toNat) (hi : IsFirst m (slotsC q).toNat i) :
    grabT c p q x = some ((layC c).at_10 + p * 32 + i * sizeC q, true, turnW (layC c) x p q ((m + 2 ^ i.toNat : Nat) : Int) (cw (layC c) x p - 1)) := by
  have g := v.lay.geo11; have hpg := h.pages; have hall := v.all
  have e0 : (layC c).c = c := rfl
  rw [e0] at g
  obtain ⟨s1, s2, s3⟩ := slots_pow hq
  have h4 := bits_lt hm s1
  obtain ⟨i0, i1, i2⟩ := isFirst_ge hi hlt
  have hmul := mul_size hq (i := i) ⟨i0, by omega⟩
  have hsz := sizeC_in hq
  obtain ⟨⟨_, k2, k3⟩, ⟨_, o2, o3⟩, _, r2, r3⟩ := rpage_at h v hp
  obtain ⟨r, f1, f2⟩ := rFirst04_is (m := m) (n := (slotsC q).toNat) h4 s1
  have er := f2.uniq hi
  subst er
  rw [s3] at f1
  have g3 : x.getD ((layC c).at_3 + p).toNat 0 = (m : Int) := hb
  generalize hn : cw (layC c) x p = n at *
  have w1 : ∀ b, 0 ≤ b → wd (x.set ((layC c).at_3 + p).toNat ((m + 2 ^ r.toNat : Nat) : Int)) b = if b = (layC c).at_3 + p then ((m + 2 ^ r.toNat : Nat) : Int) else wd x b := fun b hb => wd_set (by omega) hb
  have g2 : (x.set ((layC c).at_3 + p).toNat ((m + 2 ^ r.toNat : Nat) : Int)).getD ((layC c).at_2 + p).toNat 0 = n := by
    refine (w1 _ (by omega)).trans ?_
    rw [if_neg (by omega)]; exact hn
  have w2 : ∀ b, 0 ≤ b → wd ((x.set ((layC c).at_3 + p).toNat ((m + 2 ^ r.toNat : Nat) : Int)).set ((layC c).at_2 + p).toNat (n - 1)) b = if b = (layC c).at_2 + p then n - 1 else if b = (layC c).at_3 + p then ((m + 2 ^ r.toNat : Nat) : Int) else wd x b := fun b hb => by
    rw [wd_set (by rw [List.length_set]; omega) hb, w1 b hb]
  have g4 : ((x.set ((layC c).at_3 + p).toNat ((m + 2 ^ r.toNat : Nat) : Int)).set ((layC c).at_2 + p).toNat (n - 1)).getD ((layC c).at_2 + p).toNat 0 = n - 1 := by
    refine (w2 _ (by omega)).trans ?_
    rw [if_pos rfl]
  have vy : VOK (layC c) ((x.set ((layC c).at_3 + p).toNat ((m + 2 ^ r.toNat : Nat) : Int)).set ((layC c).at_2 + p).toNat (n - 1)).length ((x.set ((layC c).at_3 + p).toNat ((m + 2 ^ r.toNat : Nat) : Int)).set ((layC c).at_2 + p).toNat (n - 1)) := ⟨v.lay, rfl, by simpa using hall⟩
  have ry : RepW (layC c).at_4 c.Pages ((x.set ((layC c).at_3 + p).toNat ((m + 2 ^ r.toNat : Nat) : Int)).set ((layC c).at_2 + p).toNat (n - 1)) inn1 ls1 := r1.congr (by omega) (by omega) (fun b h0 h1 => by rw [w2 b (by omega), if_neg (by omega), if_neg (by omega)])
  unfold grabT
  simp only [k2, k3, o2, o3, r2, r3, g3, g2, rSlots3_eq, f1, rSet_eq h4 ⟨i0, by omega⟩ i2, Option.bind_some, List.length_set, cond_true]
  rw [show IntKind.wrap IntKind.i64 (n - 1) = n - 1 from wrap_id (by omega) (by omega), g4, rLink_eq h vy (xs := ls1 q (n - 1)) (fun k => ry.lst _ _ k) (fun k _ _ hm => by
    have := ((ry.mem _ _ k p).1 hm).2
    have := k.1; have := k.2; omega), Option.bind_some, rAddr_eq h, Option.bind_some, rSize_eq, Option.bind_some]
  unfold lAddr turnW
  rw [e0, if_pos hp, wrap_id (x := r * sizeC q) (by omega) (by omega), wrap_id (by omega) (by omega), if_neg (show ¬ n - 1 = slotsC q by omega)]
  by_cases hL : isL q (n - 1)
  · rw [if_pos ⟨hL, hp⟩, if_pos hL]
  · rw [if_neg (fun x => hL x.1), if_neg hL]
theorem rGrab_eq (h : RightC c) (v : VOK (layC c) w.length w) (i : Inv11 (layC c) w inn ls) (q : Int) : ∃ a b x, y3x ⟨c⟩ q w = some (a, b, x) ∧ GrabS (layC c) ls w q a b x := by
  have g := v.lay.geo11; have hpg := h.pages
  have e0 : (layC c).c = c := rfl
  rw [e0] at g
  have hn := v.all
  by_cases hq : 0 ≤ q ∧ q < 5
  rotate_left
  · refine ⟨_, _, _, ?_, .no (.inl hq)⟩
    unfold y3x
    rw [rSize_eq, Option.bind_some, sizeC_no hq]
    rfl
  obtain ⟨z1, z2, z3⟩ := sizeC_in hq
  obtain ⟨s1, s2, s3⟩ := slots_pow hq
  have hfst : y57 ⟨c⟩ q w = some (firstF ls q 1 (slotsC q).toNat) := rFirst_eq h v (fun f k => i.rep.lst _ _ k)
  rcases first_cls i hq rfl with ⟨hf, _⟩ | ⟨hp, ⟨m, f⟩, h1, hmem, _⟩
  · obtain ⟨p, e1, e2⟩ := r9Find_eq h v 1 1
    rcases find_free e2 with ⟨e3, e4⟩ | ⟨hp, hk⟩
    · refine ⟨_, _, _, ?_, .no (.inr ⟨hf, e4⟩)⟩
      unfold y3x
      rw [rSize_eq, Option.bind_some, beq_eq_false_iff_ne.2 (show sizeC q ≠ 0 by omega), cond_false, hfst, Option.bind_some, hf, decide_eq_true (by omega), cond_true, e1, Option.bind_some, decide_eq_true (by omega), cond_true]
    · have hyes : MayTake (layC c) w p 1 (q + 1) := ⟨by omega, fun _ => rfl, ⟨by omega, fun j j0 j1 => by
        have : p + j = p := by omega
        rw [this]; exact hk⟩⟩
      obtain ⟨u', _, t2⟩ := eTake_yes v hyes (by rw [e0] at hp; unfold I64; omega)
      obtain ⟨u, t1, t3⟩ := r9Take_yes h v hyes
      have eu := t3 u' t2
      subst eu
      obtain ⟨hl, hw⟩ := new_page v.lay hn hp hq t2
      have hpc : 0 ≤ p ∧ p < c.Pages := hp
      have vu : VOK (layC c) u.length u := ⟨v.lay, rfl, by rw [hl]; exact v.all⟩
      obtain ⟨⟨_, k2, k3⟩, ⟨_, o2, o3⟩, _, r2, r3⟩ := rpage_at h vu hpc
      have f : FreeOK (layC c) w inn p := by
        rcases i.pg p hp.1 hp.2 with f | ⟨c', m, f⟩
        · exact f
        · have := f.kind; have := f.cls; omega
      have ec : cw (layC c) (u.set ((layC c).at_2 + p).toNat (slotsC q)) p = slotsC q := by unfold cw; rw [hw _ (by omega), if_neg (by omega), if_pos rfl]
      have eb : bw (layC c) (u.set ((layC c).at_2 + p).toNat (slotsC q)) p = ((0 : Nat) : Int) := by unfold bw; rw [hw _ (by omega), if_neg (by omega), if_neg (by omega), if_pos rfl]; rfl
      have rv : RepW (layC c).at_4 c.Pages (u.set ((layC c).at_2 + p).toNat (slotsC q)) inn ls := i.rep.congr (by omega) (by rw [e0]; omega) (fun b h0 h1 => by rw [e0] at h1; rw [hw b (by omega), if_neg (by omega), if_neg (by omega), if_neg (by omega)])
      have hz := popN_zero (slotsC q).toNat
      have hi0 : IsFirst 0 (slotsC q).toNat 0 := .inr ⟨by omega, by omega, by simp, fun k hk => by omega⟩
      have vv : VOK (layC c) (u.set ((layC c).at_2 + p).toNat (slotsC q)).length (u.set ((layC c).at_2 + p).toNat (slotsC q)) := ⟨v.lay, rfl, by rw [List.length_set, hl]; exact v.all⟩
      have gt := grabT_eq h vv rv f.linked hpc hq eb (Nat.two_pow_pos _) (by omega) (by rw [ec]; omega) hi0
      rw [ec] at gt
      refine ⟨_, _, _, ?_, GrabS.new hq hf e2 hp.1 t2⟩
      have gt' : grabT c p q (u.set ((layC c).at_2 + p).toNat (slotsC q)) = some ((layC c).at_10 + p * 32, true, turnW (layC c) (u.set ((layC c).at_2 + p).toNat (slotsC q)) p q 1 (slotsC q - 1)) := by
        rw [gt, show (layC c).at_10 + p * 32 + 0 * sizeC q = (layC c).at_10 + p * 32 by omega]; rfl
      rw [← gt']
      unfold y3x
      rw [rSize_eq, Option.bind_some, beq_eq_false_iff_ne.2 (show sizeC q ≠ 0 by omega), cond_false, hfst, Option.bind_some, hf, decide_eq_true (by omega), cond_true, e1, Option.bind_some, decide_eq_false (by omega), cond_false, wrap_id (x := q + 1) (by omega) (by omega), t1, Option.bind_some,
        k2, Option.bind_some, rSlots3_eq, Option.bind_some]
      simp only [o2, r2, cond_true]
      unfold grabT
      simp only [k2, rSlots3_eq, rSize_eq]
  · have hlf := f.left
    have hn' : (layC c).at_11 ≤ (w.length : Int) := v.all
    obtain ⟨ls', r1, hlen, hoff⟩ := cls_rep v.lay hn' i.rep hp f
    generalize hpp : firstF ls q 1 (slotsC q).toNat = p at *
    have hpc : 0 ≤ p ∧ p < c.Pages := hp
    have hltp : popN m (slotsC q).toNat < (slotsC q).toNat := by omega
    obtain ⟨j, _, j1⟩ := First_is (m := m) (n := (slotsC q).toNat) (bits_lt f.lt s1) s1
    obtain ⟨j0, _, _⟩ := isFirst_ge j1 hltp
    have hil : (inn.length : Int) = c.Pages := i.rep.len
    have ecw : cw (layC c) (unl (layC c) ls w p q (cw (layC c) w p)) p = cw (layC c) w p := hoff _ (by omega) (.inl (by omega))
    have ebw : bw (layC c) (unl (layC c) ls w p q (cw (layC c) w p)) p = (m : Int) := (hoff _ (by omega) (.inl (by omega))).trans f.bits
    have vx : VOK (layC c) (unl (layC c) ls w p q (cw (layC c) w p)).length (unl (layC c) ls w p q (cw (layC c) w p)) := ⟨v.lay, rfl, by rw [hlen]; exact v.all⟩
    have gt := grabT_eq h vx r1 (by rw [wd_set (by omega) hp.1, if_pos rfl]) hpc hq ebw f.lt hltp (by rw [ecw]; exact hlf) j1
    rw [ecw] at gt
    refine ⟨_, _, _, ?_, GrabS.old hq hp.1 hpp f.bits j1 j0⟩
    rw [← gt]
    obtain ⟨⟨_, k2, k3⟩, ⟨_, o2, o3⟩, _, r2, r3⟩ := rpage_at h v hpc
    unfold y3x
    rw [rSize_eq, Option.bind_some, beq_eq_false_iff_ne.2 (show sizeC q ≠ 0 by omega), cond_false, hfst, Option.bind_some, decide_eq_false (by omega), cond_false, k2, Option.bind_some, r2, cond_true, o2, r2, cond_true]
    have eg : w.getD ((layC c).at_2 + p).toNat 0 = cw (layC c) w p := rfl
    rw [eg, rUnlink_eq h v (xs := ls q (cw (layC c) w p)) (fun k => i.rep.lst _ _ k), Option.bind_some]
    have e2 : (if isL q (cw (layC c) w p) ∧ p ∈ ls q (cw (layC c) w p) then (true, unlinkW (layC c).at_4 c.Pages w (hdI ((layC c).at_4 + 2 * c.Pages) q (cw (layC c) w p)) p) else (false, w)).2 = unl (layC c) ls w p q (cw (layC c) w p) := by unfold unl; split <;> rfl
    rw [e2]
    unfold grabT
    simp only [k2, rSize_eq]
end
end Go.Rx
end

section
namespace Go.Rx
open Go.Proofs
section
variable {c : yb} {w inn : List Int} {ls : Int → Int → List Int}
theorem rTaken_eq (h : RightC c) (v : VOK (layC c) w.length w) (i : Inv11 (layC c) w inn ls) (a : Int) :
    (∃ p q m j, Tk (layC c) w a p q m j ∧ ClsOK (layC c) w inn p q m ∧ y3m ⟨c⟩ a w = some (q, true)) ∨ ((∀ p q m j, ¬ Tk (layC c) w a p q m j) ∧ y3m ⟨c⟩ a w = some (0, false)) := by
  have g := v.lay.geo11
  have e0 : (layC c).c = c := rfl
  rw [e0] at g
  unfold y3m
  rw [rPlace_eq h, Option.bind_some]
  unfold lPlace
  by_cases hu : (layC c).at_10 ≤ a ∧ a < (layC c).at_11
  · rw [if_pos hu]
    simp only [Bool.not_true, cond_false]
    generalize hpd : (a - (layC c).at_10) / 32 = p
    have hp : 0 ≤ p ∧ p < c.Pages := by omega
    obtain ⟨⟨k1, k2, k3⟩, ⟨o1, o2, o3⟩, r1, r2, r3⟩ := rpage_at h v hp
    rw [k1, Option.bind_some, r1, cond_true, o1, r1, cond_true]
    have hkw : w.getD ((layC c).at_1 + p).toNat 0 = kw (layC c) w p := rfl
    rw [hkw]
    rcases i.pg p hp.1 hp.2 with f | ⟨q, m, f⟩
    · rw [f.kind, show IntKind.wrap .i64 (0 - 1) = -1 from rfl, rSize_eq, sizeC_no (by omega)]
      refine .inr ⟨fun p' c' m' j t => ?_, rfl⟩
      have := t.page; have := t.kind; have := t.cls
      rw [hpd] at *
      subst p'
      have := f.kind
      omega
    · have hc := f.cls
      obtain ⟨z1, z2, z3⟩ := sizeC_in hc
      obtain ⟨s1, s2, s3⟩ := slots_pow hc
      rw [f.kind, wrap_id (by omega) (by omega), show q + 1 - 1 = q by omega, rSize_eq, Option.bind_some, beq_eq_false_iff_ne.2 (show sizeC q ≠ 0 by omega)]
      simp only [Bool.not_false, cond_true, cond_false]
      have hx : 0 ≤ (a - (layC c).at_10) % 32 ∧ (a - (layC c).at_10) % 32 < 32 := by omega
      have same : ∀ p' c' m' j, Tk (layC c) w a p' c' m' j → p' = p ∧ c' = q ∧ m' = m := by
        intro p' c' m' j t
        have e1 : p' = p := t.page.trans hpd
        subst e1
        have := t.kind; have := f.kind
        have e3 : (m' : Int) = m := t.bits.symm.trans f.bits
        exact ⟨rfl, by omega, by omega⟩
      rw [Int.tmod_eq_emod_of_nonneg hx.1, Int.tdiv_eq_ediv_of_nonneg hx.1]
      by_cases hm : (a - (layC c).at_10) % 32 % sizeC q = 0
      · have hj : 0 ≤ (a - (layC c).at_10) % 32 / sizeC q ∧ (a - (layC c).at_10) % 32 / sizeC q < 32 := by
          have e : q = 0 ∨ q = 1 ∨ q = 2 ∨ q = 3 ∨ q = 4 := by omega
          rcases e with rfl | rfl | rfl | rfl | rfl <;> simp [sizeC] <;> omega
        have hbw : w.getD ((layC c).at_3 + p).toNat 0 = (m : Int) := f.bits
        rw [hm, show ((0 : Int) != 0) = false from rfl, cond_false, k3, Option.bind_some, r3, cond_true, o3, r3, cond_true, hbw, wrap_id (by omega) (by omega), rHas_eq (bits_lt f.lt s1), Option.bind_some]
        have hb : bitI m ((a - (layC c).at_10) % 32 / sizeC q) = m.testBit ((a - (layC c).at_10) % 32 / sizeC q).toNat := by unfold bitI; rw [decide_eq_true hj]; rfl
        rw [hb]
        cases ht : m.testBit ((a - (layC c).at_10) % 32 / sizeC q).toNat with
        | true => exact .inl ⟨p, q, m, _, ⟨hu, hpd.symm, hc, f.kind, f.bits, hm, rfl, ht⟩, f, rfl⟩
        | false =>
          refine .inr ⟨fun p' c' m' j t => ?_, rfl⟩
          obtain ⟨rfl, rfl, rfl⟩ := same p' c' m' j t
          have := t.is
          rw [t.num, ht] at this
          cases this
      · rw [bne_iff_ne.2 hm]
        refine .inr ⟨fun p' c' m' j t => ?_, rfl⟩
        obtain ⟨rfl, rfl, rfl⟩ := same p' c' m' j t
        exact hm t.mul
  · rw [if_neg hu]
    exact .inr ⟨fun p c m j t => hu t.user, rfl⟩
theorem rRoom_eq (h : RightC c) (v : VOK (layC c) w.length w) (i : Inv11 (layC c) w inn ls) (q : Int) : y4e ⟨c⟩ q w = some (decide (0 ≤ firstF ls q 1 (slotsC q).toNat)) := by
  unfold y4e
  rw [rFirst_eq h v (ls := ls) (fun f k => i.rep.lst _ _ k), Option.bind_some]
theorem rFree_eq (h : RightC c) (v : VOK (layC c) w.length w) (i : Inv11 (layC c) w inn ls) (q : Int) : y4v ⟨c⟩ q w = some (freeN (layC c) w q c.Pages.toNat) := by
  have hpg := h.pages
  have e0 : (layC c).c = c := rfl
  have key : ∀ d k : Nat, c.Pages.toNat - k = d → (k : Int) ≤ c.Pages → ybw ⟨c⟩ q w (freeN (layC c) w q k, (k : Int)) = some (freeN (layC c) w q c.Pages.toNat) := by
    intro d
    induction d with
    | zero =>
      intro k hd hk
      have e : k = c.Pages.toNat := by omega
      subst e
      exact loopO_end (by simp only [ya1, decide_eq_false (show ¬ ((c.Pages.toNat : Int) < c.Pages) by omega), cond_false])
    | succ d ih =>
      intro k hd hk
      have hp : 0 ≤ (k : Int) ∧ (k : Int) < c.Pages := by omega
      have hb := freeN_le (layC c) w q k
      have hb1 := freeN_le (layC c) w q (k + 1)
      refine (loopO_go (s' := (freeN (layC c) w q (k + 1), ((k + 1 : Nat) : Int))) ?_).trans (ih (k + 1) (by omega) (by omega))
      obtain ⟨⟨k1, k2, k3⟩, ⟨o1, o2, o3⟩, r1, r2, r3⟩ := rpage_at h v hp
      simp only [ya1, decide_eq_true hp.2, cond_true]
      rw [wrap_id (x := (k : Int) + 1) (by omega) (by omega)]
      simp only [freeN]
      by_cases hc : 0 ≤ q ∧ q < 5
      · obtain ⟨z1, z2, z3⟩ := sizeC_in hc
        obtain ⟨s1, s2, s3⟩ := slots_pow hc
        have hkw : w.getD ((layC c).at_1 + (k : Int)).toNat 0 = kw (layC c) w k := rfl
        rw [decide_eq_true (show q ≥ 0 by omega), cond_true, decide_eq_true hc.2, cond_true, k1, Option.bind_some, r1, cond_true, o1, r1, cond_true, hkw, wrap_id (x := q + 1) (by omega) (by omega)]
        by_cases hk1 : kw (layC c) w k = q + 1
        · rw [beq_iff_eq.2 hk1, cond_true, if_pos ⟨hc, hk1⟩, rSlots3_eq, Option.bind_some, k3, Option.bind_some, r3, cond_true, o3, r3, cond_true, Option.bind_some]
          rcases i.pg k hp.1 hp.2 with f | ⟨c', m, f⟩
          · have := f.kind; omega
          · have e1 : c' = q := by have := f.kind; omega
            subst e1
            have hrd : w.getD ((layC c).at_3 + (k : Int)).toNat 0 = (m : Int) := f.bits
            have hbw : bw (layC c) w k = (m : Int) := f.bits
            have hpop := popN_le m (slotsC c').toNat
            rw [hrd, hbw, Int.toNat_natCast]
            have hcnt : y8w (m : Int) (slotsC c') = some (popN m (slotsC c').toNat : Int) := by
              have := rCount_is (bits_lt f.lt s1) s1
              rw [s3] at this
              exact this
            rw [hcnt, Option.bind_some, wrap_id (x := freeN (layC c) w c' k + slotsC c') (by omega) (by omega), wrap_id (by omega) (by omega)]
            have e2 : freeN (layC c) w c' k + slotsC c' - (popN m (slotsC c').toNat : Int) = freeN (layC c) w c' k + (slotsC c' - (popN m (slotsC c').toNat : Int)) := by omega
            rw [e2]
            rfl
        · rw [beq_eq_false_iff_ne.2 hk1, cond_false, if_neg (fun x => hk1 x.2), Int.add_zero]
          rfl
      · rw [if_neg (fun x => hc x.1), Int.add_zero]
        by_cases q0 : 0 ≤ q
        · rw [decide_eq_true (show q ≥ 0 from q0), cond_true, decide_eq_false (show ¬ q < 5 by omega), cond_false]
          rfl
        · rw [decide_eq_false (show ¬ q ≥ 0 from q0), cond_false]
          rfl
  exact key _ 0 rfl (by omega)
theorem setP_over {L : ya} (h : LayOK L) {w x : List Int} {p : Int} (hl : x.length = w.length) (hn : L.at_11 ≤ (w.length : Int)) (hp : 0 ≤ p ∧ p < L.c.Pages) (e : ∀ b, 0 ≤ b → b ≠ L.at_2 + p → b ≠ L.at_3 + p → wd x b = wd w b) :
    setP L.at_1 L.c.Pages x p 0 0 = setP L.at_1 L.c.Pages w p 0 0 := by
  have g := h.geo11
  refine wd_ext (by rw [setP_len, setP_len, hl]) (fun b hb => ?_)
  rw [setP_wd (GeoKL h (by rw [hl]; exact hn)) hp hb, setP_wd (GeoKL h hn) hp hb]
  split
  · rfl
  · split
    · rfl
    · split
      · rfl
      · exact e b hb (by omega) (by omega)
theorem rReturn_eq (h : RightC c) (v : VOK (layC c) w.length w) (i : Inv11 (layC c) w inn ls) (a : Int) : ∃ b x, y4c ⟨c⟩ a w = some (b, x) ∧ RetS (layC c) ls w a b x := by
  have g := v.lay.geo11
  have e0 : (layC c).c = c := rfl
  rw [e0] at g
  have hpg := h.pages
  unfold y4c
  rcases rTaken_eq h v i a with ⟨p, q, m, j, t, f, e⟩ | ⟨h1, e⟩
  rotate_left
  · rw [e, Option.bind_some]
    exact ⟨_, _, rfl, .no h1⟩
  rw [e, Option.bind_some]
  simp only [Bool.not_true, cond_false]
  obtain ⟨hp, hj, ha⟩ := t.more v.lay
  have hpc : 0 ≤ p ∧ p < c.Pages := hp
  obtain ⟨s1, s2, s3⟩ := slots_pow f.cls
  obtain ⟨z1, z2, z3⟩ := sizeC_in f.cls
  have hpop := popN_le m (slotsC q).toNat
  have hleft := f.left; have hused := f.used
  have hn : (layC c).at_11 ≤ (w.length : Int) := v.all
  obtain ⟨ls', r1', hlen, hoff⟩ := cls_rep v.lay hn i.rep hp f
  obtain ⟨⟨k1, k2, k3⟩, ⟨o1, o2, o3⟩, r1, r2, r3⟩ := rpage_at h v hpc
  have epl : lPlace (layC c) a = (p, (a - (layC c).at_10) % 32, true) := by
    unfold lPlace
    rw [if_pos t.user, t.page]
  have eg : w.getD ((layC c).at_2 + p).toNat 0 = cw (layC c) w p := rfl
  rw [rPlace_eq h, epl, Option.bind_some]
  simp only
  rw [k2, Option.bind_some, r2, cond_true, o2, r2, cond_true, eg, rUnlink_eq h v (xs := ls q (cw (layC c) w p)) (fun k => i.rep.lst _ _ k), Option.bind_some]
  have e2 : (if isL q (cw (layC c) w p) ∧ p ∈ ls q (cw (layC c) w p) then (true, unlinkW (layC c).at_4 c.Pages w (hdI ((layC c).at_4 + 2 * c.Pages) q (cw (layC c) w p)) p) else (false, w)).2 = unl (layC c) ls w p q (cw (layC c) w p) := by unfold unl; split <;> rfl
  rw [e2]
  have hRet := RetS.yes (ls := ls) t
  have hinn : (inn.length : Int) = c.Pages := i.rep.len
  have hz1 : wd (inn.set p.toNat 0) p = 0 := by rw [wd_set (by omega) hp.1, if_pos rfl]
  generalize hcn : cw (layC c) w p = n at *
  have r2u : (unl (layC c) ls w p q n).length = w.length := hlen
  have ecw : cw (layC c) (unl (layC c) ls w p q n) p = n := (hoff _ (by omega) (.inl (by omega))).trans hcn
  have ebw : (unl (layC c) ls w p q n).getD ((layC c).at_3 + p).toNat 0 = (m : Int) := (hoff _ (by omega) (.inl (by omega))).trans f.bits
  have ekw : kw (layC c) (unl (layC c) ls w p q n) p = q + 1 := (hoff _ (by omega) (.inl (by omega))).trans t.kind
  generalize unl (layC c) ls w p q n = x at *
  have w1 : ∀ b, 0 ≤ b → wd (x.set ((layC c).at_3 + p).toNat ((m - 2 ^ j.toNat : Nat) : Int)) b = if b = (layC c).at_3 + p then ((m - 2 ^ j.toNat : Nat) : Int) else wd x b := fun b hb => wd_set (by omega) hb
  have g2 : (x.set ((layC c).at_3 + p).toNat ((m - 2 ^ j.toNat : Nat) : Int)).getD ((layC c).at_2 + p).toNat 0 = n := by
    refine (w1 _ (by omega)).trans ?_
    rw [if_neg (by omega)]; exact ecw
  have w2 : ∀ b, 0 ≤ b → wd ((x.set ((layC c).at_3 + p).toNat ((m - 2 ^ j.toNat : Nat) : Int)).set ((layC c).at_2 + p).toNat (n + 1)) b = if b = (layC c).at_2 + p then n + 1 else if b = (layC c).at_3 + p then ((m - 2 ^ j.toNat : Nat) : Int) else wd x b := fun b hb => by
    rw [wd_set (by rw [List.length_set]; omega) hb, w1 b hb]
  have g4 : ((x.set ((layC c).at_3 + p).toNat ((m - 2 ^ j.toNat : Nat) : Int)).set ((layC c).at_2 + p).toNat (n + 1)).getD ((layC c).at_2 + p).toNat 0 = n + 1 := by
    refine (w2 _ (by omega)).trans ?_
    rw [if_pos rfl]
  have vy : VOK (layC c) ((x.set ((layC c).at_3 + p).toNat ((m - 2 ^ j.toNat : Nat) : Int)).set ((layC c).at_2 + p).toNat (n + 1)).length ((x.set ((layC c).at_3 + p).toNat ((m - 2 ^ j.toNat : Nat) : Int)).set ((layC c).at_2 + p).toNat (n + 1)) := ⟨v.lay, rfl, by simpa [hlen] using v.all⟩
  have ry : RepW (layC c).at_4 c.Pages ((x.set ((layC c).at_3 + p).toNat ((m - 2 ^ j.toNat : Nat) : Int)).set ((layC c).at_2 + p).toNat (n + 1)) (inn.set p.toNat 0) ls' := r1'.congr (by omega) (by rw [e0]; omega) (fun b h0 h1 => by rw [e0] at h1; rw [w2 b (by omega), if_neg (by omega), if_neg (by omega)])
  have hky : kw (layC c) ((x.set ((layC c).at_3 + p).toNat ((m - 2 ^ j.toNat : Nat) : Int)).set ((layC c).at_2 + p).toNat (n + 1)) p = q + 1 := by
    refine (w2 _ (by omega)).trans ?_
    rw [if_neg (by omega), if_neg (by omega)]; exact ekw
  have enum : (a - (layC c).at_10) % 32 / sizeC q = j := t.num.symm
  have hne : (!sizeC q == 0) = true := by rw [beq_eq_false_iff_ne.2 (show sizeC q ≠ 0 by omega)]; rfl
  have ew : IntKind.wrap IntKind.i64 (Int.tdiv ((a - (layC c).at_10) % 32) (sizeC q)) = j := by
    rw [Int.tdiv_eq_ediv_of_nonneg (by omega), enum, wrap_id (by omega) (by omega)]
  have ew2 : IntKind.wrap IntKind.i64 (n + 1) = n + 1 := wrap_id (by omega) (by omega)
  simp only [k2, k3, o2, o3, Option.bind_some, List.length_set, hlen, r2, r3, cond_true, rSize_eq, hne, ew, ebw, rClear_eq (bits_lt f.lt s1) (show 0 ≤ j ∧ j < 32 by omega) t.is, g2, ew2, g4, rSlots3_eq]
  unfold turnW at hRet
  by_cases hs : n + 1 = slotsC q
  · rw [if_pos hs] at hRet
    rw [beq_iff_eq.2 hs, cond_true]
    obtain ⟨k, y, d1, d2⟩ := r9Drop_eq h vy p
    rw [d1, Option.bind_some]
    have hkn := (knd_in (w := (x.set ((layC c).at_3 + p).toNat ((m - 2 ^ j.toNat : Nat) : Int)).set ((layC c).at_2 + p).toNat (n + 1)) (kb := (layC c).at_1) hpc).trans hky
    rcases d2 with ⟨_, _, d3, d4⟩ | ⟨d3, _⟩
    · have ed := drop_page v.lay (by simpa [hlen] using v.all) hp f.cls hky d3 d4
      have es := setP_over (w := x) (x := (x.set ((layC c).at_3 + p).toNat ((m - 2 ^ j.toNat : Nat) : Int)).set ((layC c).at_2 + p).toNat (n + 1)) v.lay (by simp only [List.length_set]) (by rw [hlen]; exact hn) hp (fun b h0 h1 h2 => by rw [w2 b h0, if_neg h1, if_neg h2])
      rw [ed.trans es]
      exact ⟨_, _, rfl, hRet⟩
    · exact absurd ⟨by rw [hkn]; have := f.cls; omega, by rw [hkn]; have := f.cls; omega⟩ d3
  · rw [if_neg hs] at hRet
    rw [beq_eq_false_iff_ne.2 hs, cond_false, rLink_eq h vy (xs := ls' q (n + 1)) (fun k => ry.lst _ _ k) (fun k _ _ hm => by
      have := ((ry.mem _ _ k p).1 hm).2
      have := k.1; have := k.2; omega), Option.bind_some]
    have hL : isL q (n + 1) := ⟨f.cls, by omega, by omega⟩
    rw [if_pos hL] at hRet
    rw [if_pos ⟨hL, hpc⟩]
    exact ⟨_, _, rfl, hRet⟩
end
end Go.Rx
end

section
namespace Go.Rx
variable {L : ya} {nw : Nat} {cur u inn : List Int} {ls : Int → Int → List Int}
theorem turn_words {w1 inn1 : List Int} {ls1 : Int → Int → List Int} {p c b n : Int} (h : LayOK L) (hn : L.at_11 ≤ (w1.length : Int)) (hp : 0 ≤ p ∧ p < L.c.Pages) (r1 : RepW L.at_4 L.c.Pages w1 inn1 ls1) (hz : wd inn1 p = 0) {x : Int} (h1 : L.at_1 ≤ x) (h2 : x < L.at_4) :
    wd (turnW L w1 p c b n) x = if n = slotsC c then (if x = L.at_1 + p ∨ x = L.at_2 + p ∨ x = L.at_3 + p then 0 else wd w1 x) else if x = L.at_2 + p then n else if x = L.at_3 + p then b else wd w1 x := by
  have g := h.geo11
  unfold turnW
  by_cases hs : n = slotsC c
  · rw [if_pos hs, if_pos hs, setP_wd (GeoKL h hn) hp (by omega)]
    repeat' split
    all_goals first | rfl | omega
  · rw [if_neg hs, if_neg hs]
    have hv : ∀ y, 0 ≤ y → wd ((w1.set (L.at_3 + p).toNat b).set (L.at_2 + p).toNat n) y = if y = L.at_2 + p then n else if y = L.at_3 + p then b else wd w1 y := fun y hy => by
      rw [wd_set (by rw [List.length_set]; omega) hy, wd_set (by omega) hy]
    by_cases hL : isL c n
    · rw [if_pos hL]
      have rv : RepW L.at_4 L.c.Pages ((w1.set (L.at_3 + p).toNat b).set (L.at_2 + p).toNat n) inn1 ls1 := r1.congr (by omega) (by omega) (fun y h0 h1 => by rw [hv y (by omega), if_neg (by omega), if_neg (by omega)])
      obtain ⟨_, _, _, a3⟩ := rv.linked (GeoL h (by simpa using hn)) hL hp hz
      rw [a3 x (by omega) (.inl h2), hv x (by omega)]
    · rw [if_neg hL, hv x (by omega)]
structure Got (L : ya) (w : List Int) (c a : Int) (x : List Int) (p i : Int) (m : Nat) : Prop where
  cls : 0 ≤ c ∧ c < 5
  page : 0 ≤ p ∧ p < L.c.Pages
  num : 0 ≤ i ∧ i < slotsC c
  addr : a = L.at_10 + p * 32 + i * sizeC c
  bit : m.testBit i.toNat = false
  lt : m < 2 ^ (slotsC c).toNat
  was : (kw L w p = c + 1 ∧ bw L w p = m ∧ cw L w p = slotsC c - popN m (slotsC c).toNat ∧ popN m (slotsC c).toNat ≠ 0) ∨ (kw L w p = 0 ∧ bw L w p = 0 ∧ cw L w p = 0 ∧ m = 0)
  kind : kw L x p = c + 1
  bits : bw L x p = ((m + 2 ^ i.toNat : Nat) : Int)
  left : cw L x p = slotsC c - popN m (slotsC c).toNat - 1
  other : ∀ q, 0 ≤ q → q < L.c.Pages → q ≠ p → kw L x q = kw L w q ∧ cw L x q = cw L w q ∧ bw L x q = bw L w q
theorem got_of {w x : List Int} {c a : Int} (h : LayOK L) (hn : L.at_11 ≤ (w.length : Int)) (i : Inv11 L w inn ls) (s : GrabS L ls w c a true x) : ∃ p j m, Got L w c a x p j m := by
  have g := h.geo11
  have hpg := h.pages
  have hil : (inn.length : Int) = L.c.Pages := i.rep.len
  cases s with
  | @old p m j hc hp hf hb hj h0 =>
    rcases first_cls i hc hf with ⟨e, _⟩ | ⟨hp, ⟨m', f⟩, h1, _, _⟩
    · omega
    · have e : m' = m := by have := f.bits; omega
      subst e
      obtain ⟨s1, s2, s3⟩ := slots_pow hc
      have hlf := f.left; have hu := f.used
      obtain ⟨_, j2, j3⟩ := isFirst_ge hj (by omega)
      obtain ⟨ls', r1, hlen, hoff⟩ := cls_rep h hn i.rep hp f
      have hw : ∀ y, L.at_1 ≤ y → y < L.at_4 → wd (turnW L (unl L ls w p c (cw L w p)) p c ((m' + 2 ^ j.toNat : Nat) : Int) (cw L w p - 1)) y = if y = L.at_2 + p then cw L w p - 1 else if y = L.at_3 + p then ((m' + 2 ^ j.toNat : Nat) : Int) else wd w y := fun y h1 h2 => by
        rw [turn_words h (by rw [hlen]; exact hn) hp r1 (by rw [wd_set (by omega) hp.1, if_pos rfl]) h1 h2, if_neg (by omega), hoff y (by omega) (.inl h2)]
      generalize turnW L (unl L ls w p c (cw L w p)) p c ((m' + 2 ^ j.toNat : Nat) : Int) (cw L w p - 1) = X at *
      refine ⟨p, j, m', hc, hp, ⟨h0, by omega⟩, rfl, j3, f.lt, .inl ⟨f.kind, f.bits, hlf, by omega⟩, ?_, ?_, ?_, fun q q0 q1 hq => ⟨?_, ?_, ?_⟩⟩
      · unfold kw; rw [hw _ (by omega) (by omega), if_neg (by omega), if_neg (by omega)]; exact f.kind
      · unfold bw; rw [hw _ (by omega) (by omega), if_neg (by omega), if_pos rfl]
      · show wd X (L.at_2 + p) = _
        rw [hw _ (by omega) (by omega), if_pos rfl]
        omega
      · unfold kw; rw [hw _ (by omega) (by omega), if_neg (by omega), if_neg (by omega)]
      · show wd X (L.at_2 + q) = wd w (L.at_2 + q)
        rw [hw _ (by omega) (by omega), if_neg (by omega), if_neg (by omega)]
      · unfold bw; rw [hw _ (by omega) (by omega), if_neg (by omega), if_neg (by omega)]
  | @new p u hc hf hr hp ht =>
    rcases find_free hr with ⟨e, _⟩ | ⟨hp, hk⟩
    · omega
    · obtain ⟨hl, hv⟩ := new_page h hn hp hc ht
      obtain ⟨s1, s2, s3⟩ := slots_pow hc
      have f : FreeOK L w inn p := by
        rcases i.pg p hp.1 hp.2 with f | ⟨c', m, f⟩
        · exact f
        · have := f.kind; have := f.cls; omega
      generalize hvv : u.set (L.at_2 + p).toNat (slotsC c) = v at *
      have hvl : v.length = w.length := by rw [← hvv, List.length_set, hl]
      have rv : RepW L.at_4 L.c.Pages v inn ls := i.rep.congr (by omega) (by omega) (fun b h0 h1 => by rw [hv b (by omega), if_neg (by omega), if_neg (by omega), if_neg (by omega)])
      have hw : ∀ y, L.at_1 ≤ y → y < L.at_4 → wd (turnW L v p c 1 (slotsC c - 1)) y = if y = L.at_2 + p then slotsC c - 1 else if y = L.at_3 + p then 1 else if y = L.at_1 + p then c + 1 else wd w y := fun y h1 h2 => by
        rw [turn_words h (by rw [hvl]; exact hn) hp rv f.linked h1 h2, if_neg (by omega), hv y (by omega)]
        repeat' split
        all_goals first | rfl | omega
      have hz := popN_zero (slotsC c).toNat
      refine ⟨p, 0, 0, hc, hp, ⟨by omega, by omega⟩, by omega, by simp, Nat.two_pow_pos _, .inr ⟨hk, f.bits, f.left, rfl⟩, ?_, ?_, ?_, fun q q0 q1 hq => ⟨?_, ?_, ?_⟩⟩
      · unfold kw; rw [hw _ (by omega) (by omega), if_neg (by omega), if_neg (by omega), if_pos rfl]
      · unfold bw; rw [hw _ (by omega) (by omega), if_neg (by omega), if_pos rfl]; rfl
      · unfold cw; rw [hw _ (by omega) (by omega), if_pos rfl]; omega
      · unfold kw; rw [hw _ (by omega) (by omega), if_neg (by omega), if_neg (by omega), if_neg (by omega)]
      · unfold cw; rw [hw _ (by omega) (by omega), if_neg (by omega), if_neg (by omega), if_neg (by omega)]
      · unfold bw; rw [hw _ (by omega) (by omega), if_neg (by omega), if_neg (by omega), if_neg (by omega)]
theorem Got.tk {w x : List Int} {c a p i : Int} {m : Nat} (h : LayOK L) (t : Got L w c a x p i m) : Tk L x a p c (m + 2 ^ i.toNat) i := by
  have g := h.geo11
  have hc := t.cls; have hp := t.page; have hi := t.num
  have hm := mul_size hc hi
  have hsz := sizeC_in hc
  have ha := t.addr
  refine ⟨by omega, by omega, hc, t.kind, t.bits, ?_, ?_, ?_⟩
  · rw [show (a - L.at_10) % 32 = i * sizeC c by omega]
    exact Int.mul_emod_left _ _
  · rw [show (a - L.at_10) % 32 = i * sizeC c by omega, Int.mul_ediv_cancel _ (by omega)]
  · rw [add_bit t.bit]; simp
theorem Got.back {w x y inn' : List Int} {ls' : Int → Int → List Int} {c a p i : Int} {m : Nat} {b : Bool} (h : LayOK L) (hn : L.at_11 ≤ (x.length : Int)) (t : Got L w c a x p i m) (i' : Inv11 L x inn' ls') (s : RetS L ls' x a b y) :
    b = true ∧ (∀ q, 0 ≤ q → q < L.c.Pages → kw L y q = kw L w q ∧ cw L y q = cw L w q ∧ bw L y q = bw L w q) ∧ ∀ p c m j, ¬ Tk L y a p c m j := by
  have g := h.geo11
  have hpg := h.pages
  have tk := t.tk h
  have hc := t.cls; have hp := t.page; have hi := t.num
  obtain ⟨s1, s2, s3⟩ := slots_pow hc
  have ey : b = true ∧ y = turnW L (unl L ls' x p c (cw L x p)) p c (m : Int) (cw L x p + 1) := by
    have hy := RetS.yes (ls := ls') tk
    rw [show m + 2 ^ i.toNat - 2 ^ i.toNat = m by omega] at hy
    exact s.uniq hy
  obtain ⟨rfl, ey⟩ := ey
  have hlf := t.left
  have hpl := popN_lt (m := m) (k := (slotsC c).toNat) (i := i.toNat) (by omega) t.bit
  have f : ClsOK L x inn' p c (m + 2 ^ i.toNat) := by
    rcases i'.pg p hp.1 hp.2 with f | ⟨c', m', f⟩
    · have := f.kind; have := t.kind; omega
    · have e1 : c' = c := by have := f.kind; have := t.kind; omega
      subst e1
      have e2 : m' = m + 2 ^ i.toNat := by have := f.bits; have := t.bits; omega
      subst e2
      exact f
  obtain ⟨ls2, r1, hlen, hoff⟩ := cls_rep h hn i'.rep hp f
  have hil : (inn'.length : Int) = L.c.Pages := i'.rep.len
  have hw : ∀ z, L.at_1 ≤ z → z < L.at_4 → wd y z = if cw L x p + 1 = slotsC c then (if z = L.at_1 + p ∨ z = L.at_2 + p ∨ z = L.at_3 + p then 0 else wd x z) else if z = L.at_2 + p then cw L x p + 1 else if z = L.at_3 + p then (m : Int) else wd x z := fun z h1 h2 => by
    rw [ey, turn_words h (by rw [hlen]; exact hn) hp r1 (by rw [wd_set (by omega) hp.1, if_pos rfl]) h1 h2, hoff z (by omega) (.inl h2)]
  have all : ∀ q, 0 ≤ q → q < L.c.Pages → kw L y q = kw L w q ∧ cw L y q = cw L w q ∧ bw L y q = bw L w q := by
    intro q q0 q1
    by_cases e : q = p
    · subst e
      rcases t.was with ⟨w1, w2, w3, w4⟩ | ⟨w1, w2, w3, w4⟩
      · refine ⟨?_, ?_, ?_⟩
        · rw [w1]; unfold kw; rw [hw _ (by omega) (by omega), if_neg (by omega), if_neg (by omega), if_neg (by omega)]; exact t.kind
        · rw [w3]; show wd y (L.at_2 + q) = _; rw [hw _ (by omega) (by omega), if_neg (by omega), if_pos rfl]; omega
        · rw [w2]; unfold bw; rw [hw _ (by omega) (by omega), if_neg (by omega), if_neg (by omega), if_pos rfl]
      · have hz := popN_zero (slotsC c).toNat
        subst w4
        refine ⟨?_, ?_, ?_⟩
        · rw [w1]; unfold kw; rw [hw _ (by omega) (by omega), if_pos (by omega), if_pos (by omega)]
        · rw [w3]; show wd y (L.at_2 + q) = _; rw [hw _ (by omega) (by omega), if_pos (by omega), if_pos (by omega)]
        · rw [w2]; unfold bw; rw [hw _ (by omega) (by omega), if_pos (by omega), if_pos (by omega)]
    · obtain ⟨o1, o2, o3⟩ := t.other q q0 q1 e
      have hz : ∀ z, L.at_1 ≤ z → z < L.at_4 → z ≠ L.at_1 + p → z ≠ L.at_2 + p → z ≠ L.at_3 + p → wd y z = wd x z := fun z h1 h2 h3 h4 h5 => by
        rw [hw z h1 h2]
        repeat' split
        all_goals first | rfl | omega
      refine ⟨?_, ?_, ?_⟩
      · rw [← o1]; exact hz _ (by omega) (by omega) (by omega) (by omega) (by omega)
      · rw [← o2]; exact hz _ (by omega) (by omega) (by omega) (by omega) (by omega)
      · rw [← o3]; exact hz _ (by omega) (by omega) (by omega) (by omega) (by omega)
  refine ⟨rfl, all, fun p' c' m' j' t' => ?_⟩
  have e1 : p' = p := t'.page.trans tk.page.symm
  subst e1
  obtain ⟨a1, a2, a3⟩ := all p' hp.1 hp.2
  rcases t.was with ⟨w1, w2, _, _⟩ | ⟨w1, _, _, _⟩
  · have e2 : c' = c := by have := t'.kind; omega
    subst e2
    have e3 : m' = m := by have := t'.bits; omega
    subst e3
    have e4 : j' = i := t'.num.trans tk.num.symm
    subst e4
    have := t'.is
    rw [t.bit] at this
    cases this
  · have := t'.kind; have := t'.cls; omega
theorem Inv11.start (h : LayOK L) : Inv11 L (List.replicate L.at_11.toNat 0) (List.replicate L.c.Pages.toNat 0) (fun _ _ => []) := by
  have g := h.geo11
  have hz : ∀ (n : Nat) (b : Int), wd (List.replicate n 0) b = 0 := fun n b => by
    simp [wd, List.getD, List.getElem?_replicate]; split <;> rfl
  exact ⟨RepW.zero (GeoL h (by omega)), fun p _ _ => .inl ⟨hz _ _, hz _ _, hz _ _, hz _ _⟩⟩
end Go.Rx
end

noncomputable section
namespace Go.Rx
open Go.Proofs
set_option maxRecDepth 100000
set_option maxHeartbeats 4000000
abbrev Y49 := Bool → Option Int
def y9l (m_ : Y49) (args : List V) (H : Heap) (K : V → Heap → Prop) : Prop :=
  aC args fun a0 r => aN r <| aBool a0 fun isv => aN H <| So (m_ isv) fun x => K (vi x) []
def ycg (m_ : Y49) : Spec := ⟨y9l m_, (true : Bool)⟩
abbrev Y19 := Nat → (List Int) → ya → yk → Int → Option (Int × Int × Int × Int × (List Int))
def y8j (m_ : Y19) (args : List V) (H : Heap) (K : V → Heap → Prop) : Prop :=
  aC args fun a0 r => aC r fun a1 r => aC r fun a2 r => aC r fun a3 r => aN r <| aPtr 0 a0 <| aAgg a1 fun c1 => yr c1 fun l2 => aAgg a2 fun c2 => y5e c2 fun a => aInt a3 fun atv => aC H fun b0 r => aC r fun b1 r => aN r <| bView 1 b0 fun ws cur xs => bRow 0 true b1 fun (l : List Int) => ws = l ∧ xs.length ≤ 2 ∧ So (m_ ws.length cur l2 a atv) fun x => K (.agg [vi x.1, vi x.2.1, vi x.2.2.1, vi x.2.2.2.1]) [.pk 0 [ws, x.2.2.2.2] xs [.row 1], .row 0 l true]
def yde (m_ : Y19) : Spec := ⟨y8j m_, (true : Bool)⟩
abbrev Y36 := Int → yk → (List Int) → Option Int
def ya3 (m_ : Y36) (args : List V) (H : Heap) (K : V → Heap → Prop) : Prop :=
  aC args fun a0 r => aC r fun a1 r => aC r fun a2 r => aN r <| aRow 0 a0 <| aInt a1 fun user => aAgg a2 fun c2 => y5e c2 fun a => aC H fun b0 r => aN r <| bRow 0 true b0 fun (b : List Int) => So (m_ user a b) fun x => K (vi x) [.row 0 b true]
def yee (m_ : Y36) : Spec := ⟨ya3 m_, (true : Bool)⟩
abbrev Y35 := Int → (List Int) → Option (List Int)
def y7w (m_ : Y35) (args : List V) (H : Heap) (K : V → Heap → Prop) : Prop :=
  aC args fun a0 r => aC r fun a1 r => aN r <| aRow 0 a0 <| aInt a1 fun a => aC H fun b0 r => aN r <| bRow 0 true b0 fun (b : List Int) => So (m_ a b) fun x => K (.row 1) [.row 0 b true, .row 0 x false]
def yc1 (m_ : Y35) : Spec := ⟨y7w m_, (true : Bool)⟩
def ybb  : Cfg := { cfgB with
  sigs := sigN }
def ydt (y01 : Y10) (yq : Y49) (y1h : Y12) (y0v : Y34) (y0j : Y15) (y04 : Y0) : Cfg := { cfgB with
  sigs := (sigC 25 (y5o y01) (sigC 41 (ycg yq) (sigC 30 (ydc y1h) (sigC 42 (yck y0v) (sigC 24 (y8b y0j) (sigC 29 (y83 y04) sigN)))))),
  plan := fun r => match r with | 10 => some ([0, 1, 3, 4, 5, 6, 9, 10, 11, 12, 2, 7, 8, 13, 14, 15], 528) | _ => none,
  flag := fun d => Nat.beq d 8 }
def ybo  : Cfg := { cfgB with
  sigs := sigN }
def y3f  : Cfg := { cfgB with
  sigs := sigN,
  keep := fun r => match r with | 3 => some [(0, some 0), (1, none), (5, some 0), (6, none)] | _ => none }
theorem yhd (isv : Bool) (K : V → Heap → Prop) : (exF ybb Tryz.f41 [vb isv] [] K) = (
    br isv (K (vi 1) []) (K (vi 0) [])) := by kernel_rfl
theorem yk2 (y01 : Y10) (yq : Y49) (y1h : Y12) (y0v : Y34) (y0j : Y15) (y04 : Y0) (ws cur : List Int) (xs : List Value) (l2 : ya) (a : yk) (atv : Int) (K : V → Heap → Prop) : (exF (ydt y01 yq y1h y0v y0j y04) Tryz.f12 [.ptr 0 0, .agg (yc l2), .agg (y5p a), vi atv] (hV ws cur xs) K) = (
    br (a.Kind == 0) (br (a.Kind == 0) ((ws = ws) ∧ ((xs.length ≤ 2) ∧ (So (y01 ws.length cur l2 a.C) (fun (y0 : Int × Bool × List Int) => (So (yq y0.2.1) (fun (y1 : Int) => (K (.agg [vi y0.1, vi y1, vi 0, vi 0]) (hV ws y0.2.2 xs)))))))) (br (a.Kind == 2) (br (a.Kind == 2) ((ws = ws) ∧ ((xs.length ≤ 2) ∧ (So (y1h ws.length cur l2 atv) (fun (y2 : Bool × List Int) => (So (yq y2.1) (fun (y3 : Int) => (K (.agg [vi y3, vi 0, vi 0, vi 0]) (hV ws y2.2 xs)))))))) ((ws = ws) ∧ ((xs.length ≤ 2) ∧ (So (y0v ws.length cur l2 atv) (fun (y4 : Int × Bool) => (So (yq y4.2) (fun (y5 : Int) => ((ws = ws) ∧ ((xs.length ≤ 2) ∧ (So (y0j ws.length cur l2 a.C) (fun (y6 : Bool) => (So (yq y6) (fun (y7 : Int) => ((ws = ws) ∧ ((xs.length ≤ 2) ∧ (So (y04 ws.length cur l2 a.C) (fun (y8 : Int) => (K (.agg [vi y4.1, vi y5, vi y7, vi y8]) (hV ws cur xs))))))))))))))))))) (br (a.Kind == 3) ((ws = ws) ∧ ((xs.length ≤ 2) ∧ (So (y1h ws.length cur l2 atv) (fun (y9 : Bool × List Int) => (So (yq y9.1) (fun (y10 : Int) => (K (.agg [vi y10, vi 0, vi 0, vi 0]) (hV ws y9.2 xs)))))))) ((ws = ws) ∧ ((xs.length ≤ 2) ∧ (So (y0v ws.length cur l2 atv) (fun (y11 : Int × Bool) => (So (yq y11.2) (fun (y12 : Int) => ((ws = ws) ∧ ((xs.length ≤ 2) ∧ (So (y0j ws.length cur l2 a.C) (fun (y13 : Bool) => (So (yq y13) (fun (y14 : Int) => ((ws = ws) ∧ ((xs.length ≤ 2) ∧ (So (y04 ws.length cur l2 a.C) (fun (y15 : Int) => (K (.agg [vi y11.1, vi y12, vi y14, vi y15]) (hV ws cur xs))))))))))))))))))))) (br (a.Kind == 1) ((ws = ws) ∧ ((xs.length ≤ 2) ∧ (So (y01 ws.length cur l2 a.C) (fun (y16 : Int × Bool × List Int) => (So (yq y16.2.1) (fun (y17 : Int) => (K (.agg [vi y16.1, vi y17, vi 0, vi 0]) (hV ws y16.2.2 xs)))))))) (br (a.Kind == 2) (br (a.Kind == 2) ((ws = ws) ∧ ((xs.length ≤ 2) ∧ (So (y1h ws.length cur l2 atv) (fun (y18 : Bool × List Int) => (So (yq y18.1) (fun (y19 : Int) => (K (.agg [vi y19, vi 0, vi 0, vi 0]) (hV ws y18.2 xs)))))))) ((ws = ws) ∧ ((xs.length ≤ 2) ∧ (So (y0v ws.length cur l2 atv) (fun (y20 : Int × Bool) => (So (yq y20.2) (fun (y21 : Int) => ((ws = ws) ∧ ((xs.length ≤ 2) ∧ (So (y0j ws.length cur l2 a.C) (fun (y22 : Bool) => (So (yq y22) (fun (y23 : Int) => ((ws = ws) ∧ ((xs.length ≤ 2) ∧ (So (y04 ws.length cur l2 a.C) (fun (y24 : Int) => (K (.agg [vi y20.1, vi y21, vi y23, vi y24]) (hV ws cur xs))))))))))))))))))) (br (a.Kind == 3) ((ws = ws) ∧ ((xs.length ≤ 2) ∧ (So (y1h ws.length cur l2 atv) (fun (y25 : Bool × List Int) => (So (yq y25.1) (fun (y26 : Int) => (K (.agg [vi y26, vi 0, vi 0, vi 0]) (hV ws y25.2 xs)))))))) ((ws = ws) ∧ ((xs.length ≤ 2) ∧ (So (y0v ws.length cur l2 atv) (fun (y27 : Int × Bool) => (So (yq y27.2) (fun (y28 : Int) => ((ws = ws) ∧ ((xs.length ≤ 2) ∧ (So (y0j ws.length cur l2 a.C) (fun (y29 : Bool) => (So (yq y29) (fun (y30 : Int) => ((ws = ws) ∧ ((xs.length ≤ 2) ∧ (So (y04 ws.length cur l2 a.C) (fun (y31 : Int) => (K (.agg [vi y27.1, vi y28, vi y30, vi y31]) (hV ws cur xs)))))))))))))))))))))) := by kernel_rfl
theorem yh4 (user : Int) (a : yk) (b : List Int) (K : V → Heap → Prop) : (exF ybo Tryz.f8 [.row 0, vi user, .agg (y5p a)] [.row 0 b true] K) = (
    br (a.Kind == 2) (br (decide ((↑b.length : Int) > 0)) (Req (!IntKind.u64.wrap (↑b.length : Int) == 0) (Req (inR (IntKind.i64.wrap (Int.tmod (IntKind.u64.wrap a.N) (IntKind.u64.wrap (↑b.length : Int)))) b.length) (Req (inR (offs (IntKind.i64.wrap (Int.tmod (IntKind.u64.wrap a.N) (IntKind.u64.wrap (↑b.length : Int)))) 0) b.length) (K (vi (b.getD (Int.toNat (offs (IntKind.i64.wrap (Int.tmod (IntKind.u64.wrap a.N) (IntKind.u64.wrap (↑b.length : Int)))) 0)) 0)) [.row 0 b true])))) (K (vi (IntKind.i64.wrap (user + IntKind.i64.wrap (Int.tmod (IntKind.u64.wrap a.N) 1024)))) [.row 0 b true])) (K (vi (IntKind.i64.wrap (user + IntKind.i64.wrap (Int.tmod (IntKind.u64.wrap a.N) 1024)))) [.row 0 b true])) := by kernel_rfl
theorem yiv (a : Int) (b : List Int) (iv : Int) (w : List Int) (K : V → Heap → Prop) (J1 : Env → Heap → Prop) : (ex y3f (⟨27, 1⟩ : Cx) (at_ (bodyOf Tryz.f15) [1, 1, 0, 1, 0, 0]) (mkEnv [(0, .row 0), (1, vi a), (5, .row 1), (6, vi iv)]) [.row 0 b true, .row 0 w false] (roundK y3f (⟨27, 1⟩ : Cx) (at_ (bodyOf Tryz.f15) [1, 1, 0, 1, 0, 0]) (contK y3f (⟨27, 1⟩ : Cx) (bodyOf Tryz.f15) [1, 1, 0, 1, 0] (retK y3f Tryz.f15 1 K)) J1)) = (
    br (decide (iv < (↑b.length : Int))) (Req (inR iv b.length) (Req (inR (offs iv 0) b.length) (br (b.getD (offs iv 0).toNat 0 != a) (Req (inR iv b.length) (Req (inR (offs iv 0) b.length) (Req (decide (w.length + 1 ≤ 1048576)) (J1 (mkEnv [(0, .row 0), (1, vi a), (5, .row 1), (6, vi (IntKind.i64.wrap (iv + 1)))]) [.row 0 b true, .row 0 (w ++ [b.getD (offs iv 0).toNat 0] : List Int) false])))) (J1 (mkEnv [(0, .row 0), (1, vi a), (5, .row 1), (6, vi (IntKind.i64.wrap (iv + 1)))]) [.row 0 b true, .row 0 w false])))) (K (.row 1) [.row 0 b true, .row 0 w false])) := by kernel_rfl
theorem ygs (a : Int) (b : List Int) (K : V → Heap → Prop) : (exF y3f Tryz.f15 [.row 0, vi a] [.row 0 b true] K) = (
    Loop y3f (⟨27, 1⟩ : Cx) (at_ (bodyOf Tryz.f15) [1, 1, 0, 1, 0, 0]) (mkEnv [(0, .row 0), (1, vi a), (5, .row 1), (6, vi 0)]) [.row 0 b true, .row 0 ([] : List Int) false] (contK y3f (⟨27, 1⟩ : Cx) (bodyOf Tryz.f15) [1, 1, 0, 1, 0] (retK y3f Tryz.f15 1 K))) := by kernel_rfl
def yq (isv : Bool) : Option Int :=
  (bif isv then some 1 else some 0)
def y0m (nw : Nat) (cur : List Int) (l2 : ya) (a : yk) (atv : Int) : Option (Int × Int × Int × Int × (List Int)) :=
  (bif (a.Kind == 0) then (bif (a.Kind == 0) then ((y01 nw cur l2 a.C).bind fun y0 => ((yq y0.2.1).bind fun y1 => some (y0.1, y1, 0, 0, y0.2.2))) else (bif (a.Kind == 2) then (bif (a.Kind == 2) then ((y1h nw cur l2 atv).bind fun y2 => ((yq y2.1).bind fun y3 => some (y3, 0, 0, 0, y2.2))) else ((y0v nw cur l2 atv).bind fun y4 => ((yq y4.2).bind fun y5 => ((y0j nw cur l2 a.C).bind fun y6 => ((yq y6).bind fun y7 => ((y04 nw cur l2 a.C).bind fun y8 => some (y4.1, y5, y7, y8, cur))))))) else (bif (a.Kind == 3) then ((y1h nw cur l2 atv).bind fun y9 => ((yq y9.1).bind fun y10 => some (y10, 0, 0, 0, y9.2))) else ((y0v nw cur l2 atv).bind fun y11 => ((yq y11.2).bind fun y12 => ((y0j nw cur l2 a.C).bind fun y13 => ((yq y13).bind fun y14 => ((y04 nw cur l2 a.C).bind fun y15 => some (y11.1, y12, y14, y15, cur))))))))) else (bif (a.Kind == 1) then ((y01 nw cur l2 a.C).bind fun y16 => ((yq y16.2.1).bind fun y17 => some (y16.1, y17, 0, 0, y16.2.2))) else (bif (a.Kind == 2) then (bif (a.Kind == 2) then ((y1h nw cur l2 atv).bind fun y18 => ((yq y18.1).bind fun y19 => some (y19, 0, 0, 0, y18.2))) else ((y0v nw cur l2 atv).bind fun y20 => ((yq y20.2).bind fun y21 => ((y0j nw cur l2 a.C).bind fun y22 => ((yq y22).bind fun y23 => ((y04 nw cur l2 a.C).bind fun y24 => some (y20.1, y21, y23, y24, cur))))))) else (bif (a.Kind == 3) then ((y1h nw cur l2 atv).bind fun y25 => ((yq y25.1).bind fun y26 => some (y26, 0, 0, 0, y25.2))) else ((y0v nw cur l2 atv).bind fun y27 => ((yq y27.2).bind fun y28 => ((y0j nw cur l2 a.C).bind fun y29 => ((yq y29).bind fun y30 => ((y04 nw cur l2 a.C).bind fun y31 => some (y27.1, y28, y30, y31, cur))))))))))
def ycj (rv : yf) (a : yk) (atv : Int) (w : List Int) : Option (Int × Int × Int × Int × (List Int)) :=
  (bif (a.Kind == 0) then (bif (a.Kind == 0) then ((y3x rv a.C w).bind fun y0 => ((yq y0.2.1).bind fun y1 => some (y0.1, y1, 0, 0, y0.2.2))) else (bif (a.Kind == 2) then (bif (a.Kind == 2) then ((y4c rv atv w).bind fun y2 => ((yq y2.1).bind fun y3 => some (y3, 0, 0, 0, y2.2))) else ((y3m rv atv w).bind fun y4 => ((yq y4.2).bind fun y5 => ((y4e rv a.C w).bind fun y6 => ((yq y6).bind fun y7 => ((y4v rv a.C w).bind fun y8 => some (y4.1, y5, y7, y8, w))))))) else (bif (a.Kind == 3) then ((y4c rv atv w).bind fun y9 => ((yq y9.1).bind fun y10 => some (y10, 0, 0, 0, y9.2))) else ((y3m rv atv w).bind fun y11 => ((yq y11.2).bind fun y12 => ((y4e rv a.C w).bind fun y13 => ((yq y13).bind fun y14 => ((y4v rv a.C w).bind fun y15 => some (y11.1, y12, y14, y15, w))))))))) else (bif (a.Kind == 1) then ((y3x rv a.C w).bind fun y16 => ((yq y16.2.1).bind fun y17 => some (y16.1, y17, 0, 0, y16.2.2))) else (bif (a.Kind == 2) then (bif (a.Kind == 2) then ((y4c rv atv w).bind fun y18 => ((yq y18.1).bind fun y19 => some (y19, 0, 0, 0, y18.2))) else ((y3m rv atv w).bind fun y20 => ((yq y20.2).bind fun y21 => ((y4e rv a.C w).bind fun y22 => ((yq y22).bind fun y23 => ((y4v rv a.C w).bind fun y24 => some (y20.1, y21, y23, y24, w))))))) else (bif (a.Kind == 3) then ((y4c rv atv w).bind fun y25 => ((yq y25.1).bind fun y26 => some (y26, 0, 0, 0, y25.2))) else ((y3m rv atv w).bind fun y27 => ((yq y27.2).bind fun y28 => ((y4e rv a.C w).bind fun y29 => ((yq y29).bind fun y30 => ((y4v rv a.C w).bind fun y31 => some (y27.1, y28, y30, y31, w))))))))))
def y0o (user : Int) (a : yk) (b : List Int) : Option Int :=
  (bif (a.Kind == 2) then (bif (decide ((↑b.length : Int) > 0)) then (bif (!IntKind.u64.wrap (↑b.length : Int) == 0) then (bif (inR (IntKind.i64.wrap (Int.tmod (IntKind.u64.wrap a.N) (IntKind.u64.wrap (↑b.length : Int)))) b.length) then (bif (inR (offs (IntKind.i64.wrap (Int.tmod (IntKind.u64.wrap a.N) (IntKind.u64.wrap (↑b.length : Int)))) 0) b.length) then some (b.getD (Int.toNat (offs (IntKind.i64.wrap (Int.tmod (IntKind.u64.wrap a.N) (IntKind.u64.wrap (↑b.length : Int)))) 0)) 0) else none) else none) else none) else some (IntKind.i64.wrap (user + IntKind.i64.wrap (Int.tmod (IntKind.u64.wrap a.N) 1024)))) else some (IntKind.i64.wrap (user + IntKind.i64.wrap (Int.tmod (IntKind.u64.wrap a.N) 1024))))
def y54 (a : Int) (b : List Int) (iv : Int) (w : List Int) : Option ((Int × (List Int)) ⊕ (List Int)) :=
  (bif (decide (iv < (↑b.length : Int))) then (bif (inR iv b.length) then (bif (inR (offs iv 0) b.length) then (bif (b.getD (offs iv 0).toNat 0 != a) then (bif (inR iv b.length) then (bif (inR (offs iv 0) b.length) then (bif (decide (w.length + 1 ≤ 1048576)) then some (.inl ((IntKind.i64.wrap (iv + 1)), (w ++ [b.getD (offs iv 0).toNat 0]))) else none) else none) else none) else some (.inl ((IntKind.i64.wrap (iv + 1)), w))) else none) else none) else some (.inr w))
def yd1 (a : Int) (b : List Int) (s : Int × (List Int)) : Option (List Int) :=
  loopO (fun s => y54 a b s.1 s.2) s
def y0f (a : Int) (b : List Int) : Option (List Int) :=
  (yd1 a b (0, ([])))
attribute [local irreducible] Loop ex exF contK roundK retK at_ bodyOf mkEnv
theorem yfk : SpecOK Tryz.prog elTT 41 (ycg yq) := by
  refine spec_of_exF (cfg := ybb) (yg rfl rfl rfl) ym (fn := Tryz.f41) (by kernel_rfl) (by kernel_rfl) (by kernel_rfl) ?_
  intro args H K h
  change y9l yq args H K at h
  unfold y9l at h
  repeat first | (obtain ⟨_, h⟩ := h) | replace h := Des.el h
  subst_vars
  refine Eq.mpr (yhd _ K) ?_
  unfold yq at h
  revert h
  exact br_So (fun h => h) (fun h => h)
theorem ygg : SpecOK Tryz.prog elTT 12 (yde y0m) := by
  refine spec_of_exF (cfg := (ydt y01 yq y1h y0v y0j y04)) (yg rfl rfl rfl) (yd ya4 (yd yfk (yd yh8 (yd yjh (yd ybl (yd ydm ym)))))) (fn := Tryz.f12) (by kernel_rfl) (by kernel_rfl) (by kernel_rfl) ?_
  intro args H K h
  change y8j y0m args H K at h
  unfold y8j at h
  repeat first | (obtain ⟨_, h⟩ := h) | replace h := Des.el h
  subst_vars
  refine Eq.mpr (yk2 y01 yq y1h y0v y0j y04 _ _ _ _ _ _ K) ?_
  unfold y0m at h
  revert h
  exact br_So (br_So (andV (by assumption) (bind_So fun y0 => bind_So fun y1 => fun h => h)) (br_So (br_So (andV (by assumption) (bind_So fun y2 => bind_So fun y3 => fun h => h)) (andV (by assumption) (bind_So fun y4 => bind_So fun y5 => andV (by assumption) (bind_So fun y6 => bind_So fun y7 => andV (by assumption) (bind_So fun y8 => fun h => h))))) (br_So (andV (by assumption) (bind_So fun y9 => bind_So fun y10 => fun h => h)) (andV (by assumption) (bind_So fun y11 => bind_So fun y12 => andV (by assumption) (bind_So fun y13 => bind_So fun y14 => andV (by assumption) (bind_So fun y15 => fun h => h))))))) (br_So (andV (by assumption) (bind_So fun y16 => bind_So fun y17 => fun h => h)) (br_So (br_So (andV (by assumption) (bind_So fun y18 => bind_So fun y19 => fun h => h)) (andV (by assumption) (bind_So fun y20 => bind_So fun y21 => andV (by assumption) (bind_So fun y22 => bind_So fun y23 => andV (by assumption) (bind_So fun y24 => fun h => h))))) (br_So (andV (by assumption) (bind_So fun y25 => bind_So fun y26 => fun h => h)) (andV (by assumption) (bind_So fun y27 => bind_So fun y28 => andV (by assumption) (bind_So fun y29 => bind_So fun y30 => andV (by assumption) (bind_So fun y31 => fun h => h)))))))
theorem yk4 : SpecOK Tryz.prog elTT 8 (yee y0o) := by
  refine spec_of_exF (cfg := ybo) (yg rfl rfl rfl) ym (fn := Tryz.f8) (by kernel_rfl) (by kernel_rfl) (by kernel_rfl) ?_
  intro args H K h
  change ya3 y0o args H K at h
  unfold ya3 at h
  repeat first | (obtain ⟨_, h⟩ := h) | replace h := Des.el h
  subst_vars
  refine Eq.mpr (yh4 _ _ _ K) ?_
  unfold y0o at h
  revert h
  exact br_So (br_So (req_So (req_So (req_So (fun h => h)))) (fun h => h)) (fun h => h)
theorem lpok_law11_blocks_without_L1 (a : Int) (b : List Int) (iv : Int) (w : List Int) (K : V → Heap → Prop) : So (yd1 a b (iv, w)) (fun (x : (List Int)) => K (.row 1) [.row 0 b true, .row 0 x false]) → Loop y3f (⟨27, 1⟩ : Cx) (at_ (bodyOf Tryz.f15) [1, 1, 0, 1, 0, 0]) (mkEnv [(0, .row 0), (1, vi a), (5, .row 1), (6, vi iv)]) [.row 0 b true, .row 0 w false] (contK y3f (⟨27, 1⟩ : Cx) (bodyOf Tryz.f15) [1, 1, 0, 1, 0] (retK y3f Tryz.f15 1 K)) := by
  refine loopK_So (fun (s_ : Int × (List Int)) => (mkEnv [(0, .row 0), (1, vi a), (5, .row 1), (6, vi s_.1)])) (fun (s_ : Int × (List Int)) => [.row 0 b true, .row 0 (s_.2 : List Int) false]) (fun (x : (List Int)) => K (.row 1) [.row 0 b true, .row 0 x false]) ?_ (iv, w)
  intro s_ J1 h
  clear iv
  clear w
  obtain ⟨iv, w⟩ := s_
  refine Eq.mpr (yiv a b iv w K J1) ?_
  have h : So (y54 a b iv w) _ := h
  unfold y54 at h
  revert h
  exact br_So (req_So (req_So (br_So (req_So (req_So (req_So (fun h => h)))) (fun h => h)))) (fun h => h)
theorem yj2 : SpecOK Tryz.prog elTT 15 (yc1 y0f) := by
  refine spec_of_exF (cfg := y3f) (yg rfl rfl rfl) ym (fn := Tryz.f15) (by kernel_rfl) (by kernel_rfl) (by kernel_rfl) ?_
  intro args H K h
  change y7w y0f args H K at h
  unfold y7w at h
  repeat first | (obtain ⟨_, h⟩ := h) | replace h := Des.el h
  subst_vars
  refine Eq.mpr (ygs _ _ K) ?_
  unfold y0f at h
  revert h
  exact lpok_law11_blocks_without_L1 _ _ _ _ K
end Go.Rx
end

section
namespace Go.Rx
def nilRow (b tg : Nat) (H : Heap) : Option Heap := match H[b]? with
  | some (.cells U [.ext (.slice none 0 0)]) => some (H.set b (.cells U [.row H.length]) ++ [.row tg [] false])
  | _ => none
def nilRows : List (Nat × Nat) → Heap → Option Heap
  | [], H => some H
  | (b, tg) :: r, H => match nilRow b tg H with
    | some H' => nilRows r H'
    | none => none
def exN (cfg : Cfg) (cx : Cx) (nx : List (Nat × Nat)) : Code → Env → Heap → (Ex → Env → Heap → Prop) → Prop
  | .seq a b, env, H, K => ex cfg cx a env H fun e env H => match e with
    | .normal => match nilRows nx H with
      | some H' => ex cfg cx b env H' K
      | none => False
    | _ => False
  | _, _, _, _ => False
def exFN (cfg : Cfg) (nx : List (Nat × Nat)) (fn : Func) (args : List V) (H : Heap) (K : V → Heap → Prop) : Prop :=
  match fn.body with
  | some c => exN cfg (cxOf fn args H) nx c (argEnv args) H (retK cfg fn H.length K)
  | none => False
variable {cfg : Cfg} {cx : Cx} {ds : List Deferred} {ρ0 : List Value} {F0 : Nat → List Nat} {H0 : Heap} {w0 : World} {ρ : List Value} {F : Nat → List Nat} {H H' : Heap} {w : World}
theorem nilRow_step {b tg : Nat} (h : nilRow b tg H = some H') (hs : Sat cfg.elT ρ F H w) : ∃ ρ' F', Step cfg none ρ F H w ρ' F' H' w := by
  unfold nilRow at h
  split at h
  · rename_i U hb
    injection h with h
    subst h
    have hbl : b < H.length := (List.getElem?_eq_some_iff.1 hb).1
    have st : Step cfg none ρ F H w _ _ (H ++ [.row tg [] false]) w := .push hs (b := .row tg [] false) (x := .slice none 0 0) (G := []) rfl rfl rfl (Nat.le_refl _) (fun _ _ => rfl) (by simp) ⟨World.ownsRow_nil _ _ _ _, rfl⟩
    have hH : H.set b (.cells U [.row H.length]) ++ [Blk.row tg [] false] = (H ++ [Blk.row tg [] false]).set b (.cells U [.row H.length]) := by
      rw [List.set_append_left _ _ hbl]
    rw [hH]
    have hb1 : (H ++ [Blk.row tg [] false])[b]? = some (.cells U [.ext (.slice none 0 0)]) := by rw [List.getElem?_append_left hbl]; exact hb
    generalize hG : H ++ [Blk.row tg [] false] = G at *
    have hget : ∀ (i : Nat) (c : Blk), (G.set b (.cells U [.row H.length]))[i]? = some c → ∃ c0, G[i]? = some c0 ∧ c0.writable = c.writable ∧ ((i = b ∧ c = .cells U [.row H.length]) ∨ (i ≠ b ∧ c = c0)) := by
      intro i c hc
      rw [List.getElem?_set] at hc
      by_cases hi : b = i
      · subst hi
        have hbl' : b < G.length := by rw [← hG]; simp; omega
        simp [hbl'] at hc
        subst hc
        exact ⟨_, hb1, rfl, .inl ⟨rfl, rfl⟩⟩
      · rw [if_neg hi] at hc
        exact ⟨c, hc, rfl, .inr ⟨fun e => hi e.symm, rfl⟩⟩
    refine ⟨ρ ++ [Value.slice none 0 0], fset F H.length [], st.le, ⟨by rw [List.length_set]; exact st.sat.len, fun i c x hc hx => ?_, fun i c hc n hn => ?_, fun i j c d hc hd hij hw n hn => ?_⟩, ?_, fun f hf => by cases hf⟩
    · obtain ⟨c0, h0, _, h1⟩ := hget i c hc
      have hh := st.sat.each i c0 x h0 hx
      rcases h1 with ⟨rfl, rfl⟩ | ⟨_, rfl⟩
      · rw [hb1] at h0
        injection h0 with h0
        subst h0
        obtain ⟨bk, vs, e1, e2, e3, e4⟩ := hh
        refine ⟨bk, vs, e1, e2, ?_, e4⟩
        have hn : (ρ ++ [Value.slice none 0 0])[H.length]? = some (Value.slice none 0 0) := get_new hs _
        simp only [denL, V.den] at e3
        simp only [denL, V.den, hn]
        exact e3
      · exact hh
    · obtain ⟨c0, h0, _, _⟩ := hget i c hc
      exact st.sat.lt i c0 h0 n hn
    · obtain ⟨c0, h0, hw0, _⟩ := hget i c hc
      obtain ⟨d0, k0, _, _⟩ := hget j d hd
      exact st.sat.disj i j c0 d0 h0 k0 hij (by rw [hw0]; exact hw) n hn
    · refine st.fr.trans ⟨rfl, rfl, rfl, Nat.le_refl _, fun _ _ _ => rfl, fun i c hc hw n hn => ?_, fun i c hc n hn => ?_⟩
      · obtain ⟨c0, h0, hw0, _⟩ := hget i c hc
        exact .inr ⟨i, c0, h0, by rw [hw0]; exact hw, hn⟩
      · obtain ⟨c0, h0, _, _⟩ := hget i c hc
        exact .inr ⟨i, c0, h0, hn⟩
  · cases h
theorem nilRows_sound : ∀ (nx : List (Nat × Nat)) {H H' : Heap} {ρ : List Value} {F : Nat → List Nat} {env : Env} {a : Act}, cx.pins ≤ ρ0.length → nilRows nx H = some H' → St0 cfg cx ds ρ0 F0 H0 w0 ρ F env H a w → ∃ ρ' F', St0 cfg cx ds ρ0 F0 H0 w0 ρ' F' env H' a w
  | [], H, H', ρ, F, env, a, _, h, hs => by
    injection h with h
    subst h
    exact ⟨ρ, F, hs⟩
  | (b, tg) :: r, H, H', ρ, F, env, a, hp, h, hs => by
    simp only [nilRows] at h
    split at h
    · rename_i H1 h1
      obtain ⟨ρ1, F1, st⟩ := nilRow_step h1 hs.st.sat
      exact nilRows_sound r hp h (hs.step hp (a' := a) (env' := env) ⟨fun t => (hs.st.env t).le st.le, hs.st.size, hs.st.defers, st.sat⟩ st)
    · cases h
theorem exN_sound (ok : CfgOK cfg) (hsig : ∀ g s, cfg.sigs g = some s → SpecOK cfg.P cfg.elT g s) (hp : cx.pins ≤ ρ0.length) {nx : List (Nat × Nat)} : ∀ (c : Code) (K : Ex → Env → Heap → Prop) (env : Env) (H : Heap) (ρ : List Value) (F : Nat → List Nat) (a : Act) (w : World),
    exN cfg cx nx c env H K → St0 cfg cx ds ρ0 F0 H0 w0 ρ F env H a w → c.wp cfg.P (QK cfg cx ds ρ0 F0 H0 w0 K) a w := by
  intro c K env H ρ F a w h hs
  cases c with
  | seq x y =>
    simp only [exN] at h
    refine wp_seq (wp_mono (y4g ok hsig hp x _ env H ρ F a w h hs) (fun e a w hq => ?_))
    cases e with
    | normal =>
      obtain ⟨ρ', F', env', H', h1, h2⟩ := hq
      simp only at h2
      split at h2
      · rename_i H2 hn
        obtain ⟨ρ2, F2, h3⟩ := nilRows_sound nx hp hn h1
        exact y4g ok hsig hp y K env' H2 ρ2 F2 a w h2 h3
      · exact h2.elim
    | ret => obtain ⟨ρ', F', env', H', h1, h2⟩ := hq; exact h2.elim
    | exit i => obtain ⟨ρ', F', env', H', h1, h2⟩ := hq; exact h2.elim
    | goto l => exact hq.elim
    | panic ch => exact hq.elim
    | outgrown => exact hq.elim
  | _ => exact h.elim
theorem spec_of_exFN (ok : CfgOK cfg) (hsig : ∀ g s, cfg.sigs g = some s → SpecOK cfg.P cfg.elT g s) {nx : List (Nat × Nat)} {g : FuncId} {fn : Func} {s : Spec} (hg : cfg.P.funcs[g]? = some fn) (hname : (fn.name == "runtime.NumGoroutine") = false) (hb : fn.body.isNone = false)
    (h : ∀ (args : List V) (H : Heap) (K : V → Heap → Prop), s.tr args H K → exFN cfg nx fn args H K) : SpecOK cfg.P cfg.elT g s := by
  refine ⟨⟨fn, hg, hname, hb⟩, fun args H K htr ρ F w vals hden hsat => ?_⟩
  have hex := h args H K htr
  cases hc : fn.body with
  | none => rw [hc] at hb; cases hb
  | some c =>
    unfold exFN at hex
    rw [hc] at hex
    simp only at hex
    have hlen := denL_len hden
    have hst : St cfg (cxOf fn args H).nt [] ρ F (argEnv args) H { tmps := vals.toArray ++ Array.replicate (fn.ntmps - vals.toArray.size) undef, defers := [] } w :=
      ⟨argEnv_rel hden _, by simp [cxOf, hlen], rfl, hsat⟩
    have hs0 : St0 cfg (cxOf fn args H) [] ρ F H w ρ F (argEnv args) H { tmps := vals.toArray ++ Array.replicate (fn.ntmps - vals.toArray.size) undef, defers := [] } w :=
      ⟨hst, Fr.refl, fun _ _ => rfl⟩
    have hp : (cxOf fn args H).pins ≤ ρ.length := by rw [hsat.len]; exact Nat.le_refl _
    have hwp := exN_sound ok hsig hp c _ (argEnv args) H ρ F _ w hex hs0
    refine calls_of_wp hg hc (wp_mono hwp (fun e a' w' hq => ?_))
    have fin : ∀ (e : Ex) (ρ1 : List Value) (F1 : Nat → List Nat) (env1 : Env) (H1 : Heap), St0 cfg (cxOf fn args H) [] ρ F H w ρ1 F1 env1 H1 a' w' → retK cfg fn H.length K e env1 H1 →
        a'.defers = [] ∧ ∃ v, (results fn a'.tmps).run cfg.P w' = .ok v w' ∧ ∃ v' x ρ' F' H', Ending.returned v = .returned x ∧ K v' H' ∧ Rel ρ' v' x ∧ Le ρ ρ' ∧ Sat cfg.elT ρ' F' H' w' ∧ Fr H F w H' F' w' :=
      fun e ρ1 F1 env1 H1 hs1 hr => ⟨hs1.st.defers, ret_sound hsat hs1 hr⟩
    cases e with
    | normal => obtain ⟨ρ1, F1, env1, H1, h1, h2⟩ := hq; exact fin _ ρ1 F1 env1 H1 h1 h2
    | ret => obtain ⟨ρ1, F1, env1, H1, h1, h2⟩ := hq; exact fin _ ρ1 F1 env1 H1 h1 h2
    | exit i => obtain ⟨ρ1, F1, env1, H1, h1, h2⟩ := hq; exact h2.elim
    | goto l => exact hq.elim
    | panic ch => exact hq.elim
    | outgrown => exact hq.elim
end Go.Rx
end

noncomputable section
namespace Go.Rx
open Go.Proofs
set_option maxRecDepth 100000
set_option maxHeartbeats 4000000
abbrev Y5 := Nat → (List Int) → ya → Int → Bool → Int → Bool → Option ((List Int) × Bool × Int × Bool)
def y9t (m_ : Y5) (args : List V) (H : Heap) (K : V → Heap → Prop) : Prop :=
  aC args fun a0 r => aC r fun a1 r => aC r fun a2 r => aC r fun a3 r => aC r fun a4 r => aC r fun a5 r => aN r <| aPtr 0 a0 <| aPtr 1 a1 <| aPtr 2 a2 <| aPtr 3 a3 <| aPtr 4 a4 <| aPtr 5 a5 <| aC H fun b0 r => aC r fun b1 r => aC r fun b2 r => aC r fun b3 r => aC r fun b4 r => aC r fun b5 r => aC r fun b6 r => aN r <| bView 6 b0 fun ws cur xs => bCells b1 fun U c1 => yr c1 fun l2 => bCells b2 fun U2 c2 => aC c2 fun d2_0 r => aInt d2_0 fun q => aN r <| bCells b3 fun U3 c3 => aC c3 fun d3_0 r => aBool d3_0 fun room => aN r <| bCells b4 fun U4 c4 => aC c4 fun d4_0 r => aInt d4_0 fun a => aN r <| bCells b5 fun U5 c5 => aC c5 fun d5_0 r => aBool d5_0 fun got => aN r <| bRow 0 true b6 fun (l : List Int) => ws = l ∧ xs.length ≤ 2 ∧ So (m_ ws.length cur l2 q room a got) fun x => K (.tup []) [.pk 0 [ws, x.1] xs [.row 6], .cells U (yc l2), .cells U2 [vi q], .cells U3 [vb x.2.1], .cells U4 [vi x.2.2.1], .cells U5 [vb x.2.2.2], .row 0 l true]
def ya9 (m_ : Y5) : Spec := ⟨y9t m_, (true : Bool)⟩
abbrev Y6 := Nat → (List Int) → ya → Int → Int → Int → Int → Option ((List Int) × Int × Int × Int × Int)
def ya7 (m_ : Y6) (args : List V) (H : Heap) (K : V → Heap → Prop) : Prop :=
  aC args fun a0 r => aC r fun a1 r => aC r fun a2 r => aN r <| aPtr 0 a0 <| aPtr 1 a1 <| aPtr 2 a2 <| aC H fun b0 r => aC r fun b1 r => aC r fun b2 r => aC r fun b3 r => aN r <| bView 3 b0 fun ws cur xs => bCells b1 fun U c1 => yr c1 fun l2 => bCells b2 fun U2 c2 => aC c2 fun d2_0 r => aInt d2_0 fun a_0 => aC r fun d2_1 r => aInt d2_1 fun a_1 => aC r fun d2_2 r => aInt d2_2 fun a_2 => aC r fun d2_3 r => aInt d2_3 fun a_3 => aN r <| bRow 0 true b3 fun (l : List Int) => ws = l ∧ xs.length ≤ 2 ∧ So (m_ ws.length cur l2 a_0 a_1 a_2 a_3) fun x => K (.tup []) [.pk 0 [ws, x.1] xs [.row 3], .cells U (yc l2), .cells U2 [vi x.2.1, vi x.2.2.1, vi x.2.2.2.1, vi x.2.2.2.2], .row 0 l true]
def y8y (m_ : Y6) : Spec := ⟨ya7 m_, (true : Bool)⟩
def ya6 (m_ : Nat → (List Int) → ya → (List (List Int)) → Option ((List Int) × (List Int))) (args : List V) (H : Heap) (K : V → Heap → Prop) : Prop :=
  aC args fun a0 r => aC r fun a1 r => aC r fun a2 r => aC r fun a3 r => aN r <| aPtr 0 a0 <| aPtr 1 a1 <| aPtr 2 a2 <| aPtr 3 a3 <| aC H fun b0 r => aC r fun b1 r => aC r fun b2 r => aC r fun b3 r => aC r fun b4 r => aC r fun b5 r => aN r <| bView 4 b0 fun ws cur xs => bCells b1 fun U c1 => aC c1 fun d1_0 r => aNilS d1_0 <| aN r <| bCells b2 fun U2 c2 => aC c2 fun d2_0 r => aRow 5 d2_0 <| aN r <| bCells b3 fun U3 c3 => yr c3 fun l2 => bRow 0 true b4 fun (l : List Int) => bRow 6 true b5 fun (acts : List (List Int)) => ws = l ∧ xs.length ≤ 2 ∧ So (m_ ws.length cur l2 acts) fun x => K (.tup []) [.pk 0 [ws, x.1] xs [.row 4], .cells U [.row 6], .cells U2 [.row 5], .cells U3 (yc l2), .row 0 l true, .row 6 acts true, .row 0 x.2 false]
def y87 (m_ : Nat → (List Int) → ya → (List (List Int)) → Option ((List Int) × (List Int))) : Spec := ⟨ya6 m_, (true : Bool)⟩
def yeq (y0j : Y15) (y01 : Y10) : Cfg := { cfgB with
  sigs := (sigC 24 (y8b y0j) (sigC 25 (y5o y01) sigN)) }
def y2s (y01 : Y10) (y04 : Y0) : Cfg := { cfgB with
  sigs := (sigC 25 (y5o y01) (sigC 29 (y83 y04) sigN)),
  keep := fun r => match r with | 1 => some [(0, none), (1, none), (2, none), (4, none)] | _ => none }
def y3a (y0d : Y26) (y0o : Y36) (y0m : Y19) (y0f : Y35) : Cfg := { cfgB with
  sigs := (sigC 36 (yai y0d) (sigC 8 (yee y0o) (sigC 12 (yde y0m) (sigC 15 (yc1 y0f) sigN)))),
  keep := fun r => match r with | 2 => some [(0, none), (1, none), (2, none), (3, none), (5, none)] | _ => none,
  plan := fun r => match r with | 4 => some ([0, 1, 3, 4, 5, 6, 2, 7, 8], 16) | _ => none,
  planT := fun r => match r with | 5 => some ((chainT [0, 1, 2, 3, 4, 5, 6] (.alt (chainT [7, 8, 9] .fin) (chainT [8, 7, 9] .fin))), 21990232555537) | _ => none }
theorem yfp (y0j : Y15) (y01 : Y10) (ws cur : List Int) (xs : List Value) (l2 : ya) (q : Int) (room : Bool) (a : Int) (got : Bool) (U U2 : TypeId) (U3 U4 U5 : TypeId) (K : V → Heap → Prop) : (exF (yeq y0j y01) Tryz.f23 [.ptr 0 0, .ptr 1 0, .ptr 2 0, .ptr 3 0, .ptr 4 0, .ptr 5 0] [.pk 0 [ws, cur] xs [.row 6], .cells U (yc l2), .cells U2 [vi q], .cells U3 [vb room], .cells U4 [vi a], .cells U5 [vb got], .row 0 ws true] K) = (
    ((ws = ws) ∧ ((xs.length ≤ 2) ∧ (So (y0j ws.length cur l2 q) (fun (y0 : Bool) => ((ws = ws) ∧ ((xs.length ≤ 2) ∧ (So (y01 ws.length cur l2 q) (fun (y1 : Int × Bool × List Int) => (K (.tup []) [.pk 0 [ws, y1.2.2] xs [.row 6], .cells U (yc l2), .cells U2 [vi q], .cells U3 [vb y0], .cells U4 [vi y1.1], .cells U5 [vb y1.2.1], .row 0 ws true])))))))))) := by kernel_rfl
theorem yh2 (y01 : Y10) (y04 : Y0) (ws cur : List Int) (xs : List Value) (l2 : ya) (a_0 a_1 : Int) (a_2 a_3 : Int) (U U2 : TypeId) (iv : Int) (cur2 : List Int) (c c2 : Int) (c3 c4 : Int) (K : V → Heap → Prop) (J1 : Env → Heap → Prop) : (ex (y2s y01 y04) (⟨21, 4⟩ : Cx) (at_ (bodyOf Tryz.f35) [0, 1, 0, 0]) (mkEnv [(0, .ptr 0 0), (1, .ptr 1 0), (2, .ptr 2 0), (4, vi iv)]) [.pk 0 [ws, cur2] xs [.row 3], .cells U (yc l2), .cells U2 [vi c, vi c2, vi c3, vi c4], .row 0 ws true] (roundK (y2s y01 y04) (⟨21, 4⟩ : Cx) (at_ (bodyOf Tryz.f35) [0, 1, 0, 0]) (contK (y2s y01 y04) (⟨21, 4⟩ : Cx) (bodyOf Tryz.f35) [0, 1, 0] (retK (y2s y01 y04) Tryz.f35 4 K)) J1)) = (
    br (decide (iv < 3)) ((ws = ws) ∧ ((xs.length ≤ 2) ∧ (So (y01 ws.length cur2 l2 4) (fun (y0 : Int × Bool × List Int) => (Req (inR iv 4) (br (iv == (↑0 : Int)) (J1 (mkEnv [(0, .ptr 0 0), (1, .ptr 1 0), (2, .ptr 2 0), (4, vi (IntKind.i64.wrap (iv + 1)))]) [.pk 0 [ws, y0.2.2] xs [.row 3], .cells U (yc l2), .cells U2 [vi y0.1, vi c2, vi c3, vi c4], .row 0 ws true]) (br (iv == (↑1 : Int)) (J1 (mkEnv [(0, .ptr 0 0), (1, .ptr 1 0), (2, .ptr 2 0), (4, vi (IntKind.i64.wrap (iv + 1)))]) [.pk 0 [ws, y0.2.2] xs [.row 3], .cells U (yc l2), .cells U2 [vi c, vi y0.1, vi c3, vi c4], .row 0 ws true]) (br (iv == (↑2 : Int)) (J1 (mkEnv [(0, .ptr 0 0), (1, .ptr 1 0), (2, .ptr 2 0), (4, vi (IntKind.i64.wrap (iv + 1)))]) [.pk 0 [ws, y0.2.2] xs [.row 3], .cells U (yc l2), .cells U2 [vi c, vi c2, vi y0.1, vi c4], .row 0 ws true]) (br (iv == (↑3 : Int)) (J1 (mkEnv [(0, .ptr 0 0), (1, .ptr 1 0), (2, .ptr 2 0), (4, vi (IntKind.i64.wrap (iv + 1)))]) [.pk 0 [ws, y0.2.2] xs [.row 3], .cells U (yc l2), .cells U2 [vi c, vi c2, vi c3, vi y0.1], .row 0 ws true]) True))))))))) ((ws = ws) ∧ ((xs.length ≤ 2) ∧ (So (y04 ws.length cur2 l2 4) (fun (y1 : Int) => (K (.tup []) [.pk 0 [ws, cur2] xs [.row 3], .cells U (yc l2), .cells U2 [vi c, vi c2, vi c3, vi y1], .row 0 ws true])))))) := by kernel_rfl
theorem ygw (y01 : Y10) (y04 : Y0) (ws cur : List Int) (xs : List Value) (l2 : ya) (a_0 a_1 : Int) (a_2 a_3 : Int) (U U2 : TypeId) (K : V → Heap → Prop) : (exF (y2s y01 y04) Tryz.f35 [.ptr 0 0, .ptr 1 0, .ptr 2 0] [.pk 0 [ws, cur] xs [.row 3], .cells U (yc l2), .cells U2 [vi a_0, vi a_1, vi a_2, vi a_3], .row 0 ws true] K) = (
    Loop (y2s y01 y04) (⟨21, 4⟩ : Cx) (at_ (bodyOf Tryz.f35) [0, 1, 0, 0]) (mkEnv [(0, .ptr 0 0), (1, .ptr 1 0), (2, .ptr 2 0), (4, vi 0)]) [.pk 0 [ws, cur] xs [.row 3], .cells U (yc l2), .cells U2 [vi a_0, vi a_1, vi a_2, vi a_3], .row 0 ws true] (contK (y2s y01 y04) (⟨21, 4⟩ : Cx) (bodyOf Tryz.f35) [0, 1, 0] (retK (y2s y01 y04) Tryz.f35 4 K))) := by kernel_rfl
theorem yiz (y0d : Y26) (y0o : Y36) (y0m : Y19) (y0f : Y35) (ws cur : List Int) (xs : List Value) (l2 : ya) (acts : List (List Int)) (U U2 U3 : TypeId) (iv : Int) (cur2 w : List Int) (K : V → Heap → Prop) (J1 : Env → Heap → Prop) : (ex (y3a y0d y0o y0m y0f) (⟨76, 6⟩ : Cx) (at_ (bodyOf Tryz.f48) [1, 1, 0, 0]) (mkEnv [(0, .ptr 0 0), (1, .ptr 1 0), (2, .ptr 2 0), (3, .ptr 3 0), (5, vi iv)]) [.pk 0 [ws, cur2] xs [.row 4], .cells U [.row 6], .cells U2 [.row 5], .cells U3 (yc l2), .row 0 ws true, .row 6 acts true, .row 0 w false] (roundK (y3a y0d y0o y0m y0f) (⟨76, 6⟩ : Cx) (at_ (bodyOf Tryz.f48) [1, 1, 0, 0]) (contK (y3a y0d y0o y0m y0f) (⟨76, 6⟩ : Cx) (bodyOf Tryz.f48) [1, 1, 0] (retK (y3a y0d y0o y0m y0f) Tryz.f48 6 K)) J1)) = (
    br (decide (iv < (↑acts.length : Int))) (Req (inR iv acts.length) (Req (inR (offs iv 0) acts.length) (So (y0d l2) (fun (y0 : Int) => (So (y0o y0 (yk.mk (List.getD (acts.getD (Int.toNat (offs iv (0 : Nat))) (List.replicate (3 : Nat) (0 : Int))) (0 : Nat) (0 : Int)) (List.getD (acts.getD (Int.toNat (offs iv (0 : Nat))) (List.replicate (3 : Nat) (0 : Int))) (1 : Nat) (0 : Int)) (List.getD (acts.getD (Int.toNat (offs iv (0 : Nat))) (List.replicate (3 : Nat) (0 : Int))) (2 : Nat) (0 : Int))) w) (fun (y1 : Int) => (Req (inR iv acts.length) (Req (inR (offs iv 0) acts.length) (((ws = ws) ∧ ((xs.length ≤ 2) ∧ (So (y0m ws.length cur2 l2 (yk.mk (List.getD (acts.getD (Int.toNat (offs iv (0 : Nat))) (List.replicate (3 : Nat) (0 : Int))) (0 : Nat) (0 : Int)) (List.getD (acts.getD (Int.toNat (offs iv (0 : Nat))) (List.replicate (3 : Nat) (0 : Int))) (1 : Nat) (0 : Int)) (List.getD (acts.getD (Int.toNat (offs iv (0 : Nat))) (List.replicate (3 : Nat) (0 : Int))) (2 : Nat) (0 : Int))) y1) (fun (y2 : Int × Int × Int × Int × List Int) => (Req (inR iv acts.length) (Req (inR (offs iv 0) acts.length) (br (decide (List.getD (acts.getD (Int.toNat (offs iv (0 : Nat))) (List.replicate (3 : Nat) (0 : Int))) (0 : Nat) (0 : Int) ≥ (0 : Int))) (Req (inR iv acts.length) (Req (inR (offs iv 0) acts.length) (br (decide (List.getD (acts.getD (Int.toNat (offs iv (0 : Nat))) (List.replicate (3 : Nat) (0 : Int))) (0 : Nat) (0 : Int) < (2 : Int))) (br (y2.2.1 == 1) (Req (decide (w.length + 1 ≤ 1048576)) (J1 (mkEnv [(0, .ptr 0 0), (1, .ptr 1 0), (2, .ptr 2 0), (3, .ptr 3 0), (5, vi (IntKind.i64.wrap (iv + 1)))]) [.pk 0 [ws, y2.2.2.2.2] xs [.row 4], .cells U [.row 6], .cells U2 [.row 5], .cells U3 (yc l2), .row 0 ws true, .row 6 acts true, .row 0 (w ++ [y2.1] : List Int) false])) (Req (inR iv acts.length) (Req (inR (offs iv 0) acts.length) (br (decide (List.getD (acts.getD (Int.toNat (offs iv (0 : Nat))) (List.replicate (3 : Nat) (0 : Int))) (0 : Nat) (0 : Int) ≥ (2 : Int))) (Req (inR iv acts.length) (Req (inR (offs iv 0) acts.length) (br (decide (List.getD (acts.getD (Int.toNat (offs iv (0 : Nat))) (List.replicate (3 : Nat) (0 : Int))) (0 : Nat) (0 : Int) < (4 : Int))) (br (y2.1 == 1) (So (y0f y1 w) (fun (y3 : List Int) => (J1 (mkEnv [(0, .ptr 0 0), (1, .ptr 1 0), (2, .ptr 2 0), (3, .ptr 3 0), (5, vi (IntKind.i64.wrap (iv + 1)))]) [.pk 0 [ws, y2.2.2.2.2] xs [.row 4], .cells U [.row 6], .cells U2 [.row 5], .cells U3 (yc l2), .row 0 ws true, .row 6 acts true, .row 0 y3 false]))) (J1 (mkEnv [(0, .ptr 0 0), (1, .ptr 1 0), (2, .ptr 2 0), (3, .ptr 3 0), (5, vi (IntKind.i64.wrap (iv + 1)))]) [.pk 0 [ws, y2.2.2.2.2] xs [.row 4], .cells U [.row 6], .cells U2 [.row 5], .cells U3 (yc l2), .row 0 ws true, .row 6 acts true, .row 0 w false])) (J1 (mkEnv [(0, .ptr 0 0), (1, .ptr 1 0), (2, .ptr 2 0), (3, .ptr 3 0), (5, vi (IntKind.i64.wrap (iv + 1)))]) [.pk 0 [ws, y2.2.2.2.2] xs [.row 4], .cells U [.row 6], .cells U2 [.row 5], .cells U3 (yc l2), .row 0 ws true, .row 6 acts true, .row 0 w false])))) (J1 (mkEnv [(0, .ptr 0 0), (1, .ptr 1 0), (2, .ptr 2 0), (3, .ptr 3 0), (5, vi (IntKind.i64.wrap (iv + 1)))]) [.pk 0 [ws, y2.2.2.2.2] xs [.row 4], .cells U [.row 6], .cells U2 [.row 5], .cells U3 (yc l2), .row 0 ws true, .row 6 acts true, .row 0 w false]))))) (Req (inR iv acts.length) (Req (inR (offs iv 0) acts.length) (br (decide (List.getD (acts.getD (Int.toNat (offs iv (0 : Nat))) (List.replicate (3 : Nat) (0 : Int))) (0 : Nat) (0 : Int) ≥ (2 : Int))) (Req (inR iv acts.length) (Req (inR (offs iv 0) acts.length) (br (decide (List.getD (acts.getD (Int.toNat (offs iv (0 : Nat))) (List.replicate (3 : Nat) (0 : Int))) (0 : Nat) (0 : Int) < (4 : Int))) (br (y2.1 == 1) (So (y0f y1 w) (fun (y4 : List Int) => (J1 (mkEnv [(0, .ptr 0 0), (1, .ptr 1 0), (2, .ptr 2 0), (3, .ptr 3 0), (5, vi (IntKind.i64.wrap (iv + 1)))]) [.pk 0 [ws, y2.2.2.2.2] xs [.row 4], .cells U [.row 6], .cells U2 [.row 5], .cells U3 (yc l2), .row 0 ws true, .row 6 acts true, .row 0 y4 false]))) (J1 (mkEnv [(0, .ptr 0 0), (1, .ptr 1 0), (2, .ptr 2 0), (3, .ptr 3 0), (5, vi (IntKind.i64.wrap (iv + 1)))]) [.pk 0 [ws, y2.2.2.2.2] xs [.row 4], .cells U [.row 6], .cells U2 [.row 5], .cells U3 (yc l2), .row 0 ws true, .row 6 acts true, .row 0 w false])) (J1 (mkEnv [(0, .ptr 0 0), (1, .ptr 1 0), (2, .ptr 2 0), (3, .ptr 3 0), (5, vi (IntKind.i64.wrap (iv + 1)))]) [.pk 0 [ws, y2.2.2.2.2] xs [.row 4], .cells U [.row 6], .cells U2 [.row 5], .cells U3 (yc l2), .row 0 ws true, .row 6 acts true, .row 0 w false])))) (J1 (mkEnv [(0, .ptr 0 0), (1, .ptr 1 0), (2, .ptr 2 0), (3, .ptr 3 0), (5, vi (IntKind.i64.wrap (iv + 1)))]) [.pk 0 [ws, y2.2.2.2.2] xs [.row 4], .cells U [.row 6], .cells U2 [.row 5], .cells U3 (yc l2), .row 0 ws true, .row 6 acts true, .row 0 w false]))))))) (Req (inR iv acts.length) (Req (inR (offs iv 0) acts.length) (br (decide (List.getD (acts.getD (Int.toNat (offs iv (0 : Nat))) (List.replicate (3 : Nat) (0 : Int))) (0 : Nat) (0 : Int) ≥ (2 : Int))) (Req (inR iv acts.length) (Req (inR (offs iv 0) acts.length) (br (decide (List.getD (acts.getD (Int.toNat (offs iv (0 : Nat))) (List.replicate (3 : Nat) (0 : Int))) (0 : Nat) (0 : Int) < (4 : Int))) (br (y2.1 == 1) (So (y0f y1 w) (fun (y5 : List Int) => (J1 (mkEnv [(0, .ptr 0 0), (1, .ptr 1 0), (2, .ptr 2 0), (3, .ptr 3 0), (5, vi (IntKind.i64.wrap (iv + 1)))]) [.pk 0 [ws, y2.2.2.2.2] xs [.row 4], .cells U [.row 6], .cells U2 [.row 5], .cells U3 (yc l2), .row 0 ws true, .row 6 acts true, .row 0 y5 false]))) (J1 (mkEnv [(0, .ptr 0 0), (1, .ptr 1 0), (2, .ptr 2 0), (3, .ptr 3 0), (5, vi (IntKind.i64.wrap (iv + 1)))]) [.pk 0 [ws, y2.2.2.2.2] xs [.row 4], .cells U [.row 6], .cells U2 [.row 5], .cells U3 (yc l2), .row 0 ws true, .row 6 acts true, .row 0 w false])) (J1 (mkEnv [(0, .ptr 0 0), (1, .ptr 1 0), (2, .ptr 2 0), (3, .ptr 3 0), (5, vi (IntKind.i64.wrap (iv + 1)))]) [.pk 0 [ws, y2.2.2.2.2] xs [.row 4], .cells U [.row 6], .cells U2 [.row 5], .cells U3 (yc l2), .row 0 ws true, .row 6 acts true, .row 0 w false])))) (J1 (mkEnv [(0, .ptr 0 0), (1, .ptr 1 0), (2, .ptr 2 0), (3, .ptr 3 0), (5, vi (IntKind.i64.wrap (iv + 1)))]) [.pk 0 [ws, y2.2.2.2.2] xs [.row 4], .cells U [.row 6], .cells U2 [.row 5], .cells U3 (yc l2), .row 0 ws true, .row 6 acts true, .row 0 w false]))))))))))) ∧ ((ws = ws) ∧ ((xs.length ≤ 2) ∧ (So (y0m ws.length cur2 l2 (yk.mk (List.getD (acts.getD (Int.toNat (offs iv (0 : Nat))) (List.replicate (3 : Nat) (0 : Int))) (0 : Nat) (0 : Int)) (List.getD (acts.getD (Int.toNat (offs iv (0 : Nat))) (List.replicate (3 : Nat) (0 : Int))) (1 : Nat) (0 : Int)) (List.getD (acts.getD (Int.toNat (offs iv (0 : Nat))) (List.replicate (3 : Nat) (0 : Int))) (2 : Nat) (0 : Int))) y1) (fun (y6 : Int × Int × Int × Int × List Int) => (Req (inR iv acts.length) (Req (inR (offs iv 0) acts.length) (br (decide (List.getD (acts.getD (Int.toNat (offs iv (0 : Nat))) (List.replicate (3 : Nat) (0 : Int))) (0 : Nat) (0 : Int) ≥ (0 : Int))) (Req (inR iv acts.length) (Req (inR (offs iv 0) acts.length) (br (decide (List.getD (acts.getD (Int.toNat (offs iv (0 : Nat))) (List.replicate (3 : Nat) (0 : Int))) (0 : Nat) (0 : Int) < (2 : Int))) (br (y6.2.1 == 1) (Req (decide (w.length + 1 ≤ 1048576)) (J1 (mkEnv [(0, .ptr 0 0), (1, .ptr 1 0), (2, .ptr 2 0), (3, .ptr 3 0), (5, vi (IntKind.i64.wrap (iv + 1)))]) [.pk 0 [ws, y6.2.2.2.2] xs [.row 4], .cells U [.row 6], .cells U2 [.row 5], .cells U3 (yc l2), .row 0 ws true, .row 6 acts true, .row 0 (w ++ [y6.1] : List Int) false])) (Req (inR iv acts.length) (Req (inR (offs iv 0) acts.length) (br (decide (List.getD (acts.getD (Int.toNat (offs iv (0 : Nat))) (List.replicate (3 : Nat) (0 : Int))) (0 : Nat) (0 : Int) ≥ (2 : Int))) (Req (inR iv acts.length) (Req (inR (offs iv 0) acts.length) (br (decide (List.getD (acts.getD (Int.toNat (offs iv (0 : Nat))) (List.replicate (3 : Nat) (0 : Int))) (0 : Nat) (0 : Int) < (4 : Int))) (br (y6.1 == 1) (So (y0f y1 w) (fun (y7 : List Int) => (J1 (mkEnv [(0, .ptr 0 0), (1, .ptr 1 0), (2, .ptr 2 0), (3, .ptr 3 0), (5, vi (IntKind.i64.wrap (iv + 1)))]) [.pk 0 [ws, y6.2.2.2.2] xs [.row 4], .cells U [.row 6], .cells U2 [.row 5], .cells U3 (yc l2), .row 0 ws true, .row 6 acts true, .row 0 y7 false]))) (J1 (mkEnv [(0, .ptr 0 0), (1, .ptr 1 0), (2, .ptr 2 0), (3, .ptr 3 0), (5, vi (IntKind.i64.wrap (iv + 1)))]) [.pk 0 [ws, y6.2.2.2.2] xs [.row 4], .cells U [.row 6], .cells U2 [.row 5], .cells U3 (yc l2), .row 0 ws true, .row 6 acts true, .row 0 w false])) (J1 (mkEnv [(0, .ptr 0 0), (1, .ptr 1 0), (2, .ptr 2 0), (3, .ptr 3 0), (5, vi (IntKind.i64.wrap (iv + 1)))]) [.pk 0 [ws, y6.2.2.2.2] xs [.row 4], .cells U [.row 6], .cells U2 [.row 5], .cells U3 (yc l2), .row 0 ws true, .row 6 acts true, .row 0 w false])))) (J1 (mkEnv [(0, .ptr 0 0), (1, .ptr 1 0), (2, .ptr 2 0), (3, .ptr 3 0), (5, vi (IntKind.i64.wrap (iv + 1)))]) [.pk 0 [ws, y6.2.2.2.2] xs [.row 4], .cells U [.row 6], .cells U2 [.row 5], .cells U3 (yc l2), .row 0 ws true, .row 6 acts true, .row 0 w false]))))) (Req (inR iv acts.length) (Req (inR (offs iv 0) acts.length) (br (decide (List.getD (acts.getD (Int.toNat (offs iv (0 : Nat))) (List.replicate (3 : Nat) (0 : Int))) (0 : Nat) (0 : Int) ≥ (2 : Int))) (Req (inR iv acts.length) (Req (inR (offs iv 0) acts.length) (br (decide (List.getD (acts.getD (Int.toNat (offs iv (0 : Nat))) (List.replicate (3 : Nat) (0 : Int))) (0 : Nat) (0 : Int) < (4 : Int))) (br (y6.1 == 1) (So (y0f y1 w) (fun (y8 : List Int) => (J1 (mkEnv [(0, .ptr 0 0), (1, .ptr 1 0), (2, .ptr 2 0), (3, .ptr 3 0), (5, vi (IntKind.i64.wrap (iv + 1)))]) [.pk 0 [ws, y6.2.2.2.2] xs [.row 4], .cells U [.row 6], .cells U2 [.row 5], .cells U3 (yc l2), .row 0 ws true, .row 6 acts true, .row 0 y8 false]))) (J1 (mkEnv [(0, .ptr 0 0), (1, .ptr 1 0), (2, .ptr 2 0), (3, .ptr 3 0), (5, vi (IntKind.i64.wrap (iv + 1)))]) [.pk 0 [ws, y6.2.2.2.2] xs [.row 4], .cells U [.row 6], .cells U2 [.row 5], .cells U3 (yc l2), .row 0 ws true, .row 6 acts true, .row 0 w false])) (J1 (mkEnv [(0, .ptr 0 0), (1, .ptr 1 0), (2, .ptr 2 0), (3, .ptr 3 0), (5, vi (IntKind.i64.wrap (iv + 1)))]) [.pk 0 [ws, y6.2.2.2.2] xs [.row 4], .cells U [.row 6], .cells U2 [.row 5], .cells U3 (yc l2), .row 0 ws true, .row 6 acts true, .row 0 w false])))) (J1 (mkEnv [(0, .ptr 0 0), (1, .ptr 1 0), (2, .ptr 2 0), (3, .ptr 3 0), (5, vi (IntKind.i64.wrap (iv + 1)))]) [.pk 0 [ws, y6.2.2.2.2] xs [.row 4], .cells U [.row 6], .cells U2 [.row 5], .cells U3 (yc l2), .row 0 ws true, .row 6 acts true, .row 0 w false]))))))) (Req (inR iv acts.length) (Req (inR (offs iv 0) acts.length) (br (decide (List.getD (acts.getD (Int.toNat (offs iv (0 : Nat))) (List.replicate (3 : Nat) (0 : Int))) (0 : Nat) (0 : Int) ≥ (2 : Int))) (Req (inR iv acts.length) (Req (inR (offs iv 0) acts.length) (br (decide (List.getD (acts.getD (Int.toNat (offs iv (0 : Nat))) (List.replicate (3 : Nat) (0 : Int))) (0 : Nat) (0 : Int) < (4 : Int))) (br (y6.1 == 1) (So (y0f y1 w) (fun (y9 : List Int) => (J1 (mkEnv [(0, .ptr 0 0), (1, .ptr 1 0), (2, .ptr 2 0), (3, .ptr 3 0), (5, vi (IntKind.i64.wrap (iv + 1)))]) [.pk 0 [ws, y6.2.2.2.2] xs [.row 4], .cells U [.row 6], .cells U2 [.row 5], .cells U3 (yc l2), .row 0 ws true, .row 6 acts true, .row 0 y9 false]))) (J1 (mkEnv [(0, .ptr 0 0), (1, .ptr 1 0), (2, .ptr 2 0), (3, .ptr 3 0), (5, vi (IntKind.i64.wrap (iv + 1)))]) [.pk 0 [ws, y6.2.2.2.2] xs [.row 4], .cells U [.row 6], .cells U2 [.row 5], .cells U3 (yc l2), .row 0 ws true, .row 6 acts true, .row 0 w false])) (J1 (mkEnv [(0, .ptr 0 0), (1, .ptr 1 0), (2, .ptr 2 0), (3, .ptr 3 0), (5, vi (IntKind.i64.wrap (iv + 1)))]) [.pk 0 [ws, y6.2.2.2.2] xs [.row 4], .cells U [.row 6], .cells U2 [.row 5], .cells U3 (yc l2), .row 0 ws true, .row 6 acts true, .row 0 w false])))) (J1 (mkEnv [(0, .ptr 0 0), (1, .ptr 1 0), (2, .ptr 2 0), (3, .ptr 3 0), (5, vi (IntKind.i64.wrap (iv + 1)))]) [.pk 0 [ws, y6.2.2.2.2] xs [.row 4], .cells U [.row 6], .cells U2 [.row 5], .cells U3 (yc l2), .row 0 ws true, .row 6 acts true, .row 0 w false])))))))))))))))))))) (K (.tup []) [.pk 0 [ws, cur2] xs [.row 4], .cells U [.row 6], .cells U2 [.row 5], .cells U3 (yc l2), .row 0 ws true, .row 6 acts true, .row 0 w false])) := by kernel_rfl
theorem yhx (y0d : Y26) (y0o : Y36) (y0m : Y19) (y0f : Y35) (ws cur : List Int) (xs : List Value) (l2 : ya) (acts : List (List Int)) (U U2 U3 : TypeId) (K : V → Heap → Prop) : (exFN (y3a y0d y0o y0m y0f) [(1, 0)] Tryz.f48 [.ptr 0 0, .ptr 1 0, .ptr 2 0, .ptr 3 0] [.pk 0 [ws, cur] xs [.row 4], .cells U [.ext (.slice none 0 0)], .cells U2 [.row 5], .cells U3 (yc l2), .row 0 ws true, .row 6 acts true] K) = (
    Loop (y3a y0d y0o y0m y0f) (⟨76, 6⟩ : Cx) (at_ (bodyOf Tryz.f48) [1, 1, 0, 0]) (mkEnv [(0, .ptr 0 0), (1, .ptr 1 0), (2, .ptr 2 0), (3, .ptr 3 0), (5, vi 0)]) [.pk 0 [ws, cur] xs [.row 4], .cells U [.row 6], .cells U2 [.row 5], .cells U3 (yc l2), .row 0 ws true, .row 6 acts true, .row 0 ([] : List Int) false] (contK (y3a y0d y0o y0m y0f) (⟨76, 6⟩ : Cx) (bodyOf Tryz.f48) [1, 1, 0] (retK (y3a y0d y0o y0m y0f) Tryz.f48 6 K))) := by kernel_rfl
def y0n (nw : Nat) (cur : List Int) (l2 : ya) (q : Int) (room : Bool) (a : Int) (got : Bool) : Option ((List Int) × Bool × Int × Bool) :=
  ((y0j nw cur l2 q).bind fun y0 => ((y01 nw cur l2 q).bind fun y1 => some (y1.2.2, y0, y1.1, y1.2.1)))
def y3j (nw : Nat) (l2 : ya) (iv : Int) (cur2 : List Int) (c c2 : Int) (c3 c4 : Int) : Option ((Int × (List Int) × Int × Int × Int × Int) ⊕ ((List Int) × Int × Int × Int × Int)) :=
  (bif (decide (iv < 3)) then ((y01 nw cur2 l2 4).bind fun y0 => (bif (inR iv 4) then (bif (iv == (↑0 : Int)) then some (.inl ((IntKind.i64.wrap (iv + 1)), y0.2.2, y0.1, c2, c3, c4)) else (bif (iv == (↑1 : Int)) then some (.inl ((IntKind.i64.wrap (iv + 1)), y0.2.2, c, y0.1, c3, c4)) else (bif (iv == (↑2 : Int)) then some (.inl ((IntKind.i64.wrap (iv + 1)), y0.2.2, c, c2, y0.1, c4)) else (bif (iv == (↑3 : Int)) then some (.inl ((IntKind.i64.wrap (iv + 1)), y0.2.2, c, c2, c3, y0.1)) else none)))) else none)) else ((y04 nw cur2 l2 4).bind fun y1 => some (.inr (cur2, c, c2, c3, y1))))
def ye1 (nw : Nat) (l2 : ya) (s : Int × (List Int) × Int × Int × Int × Int) : Option ((List Int) × Int × Int × Int × Int) :=
  loopO (fun s => y3j nw l2 s.1 s.2.1 s.2.2.1 s.2.2.2.1 s.2.2.2.2.1 s.2.2.2.2.2) s
def y1x (nw : Nat) (cur : List Int) (l2 : ya) (a_0 a_1 : Int) (a_2 a_3 : Int) : Option ((List Int) × Int × Int × Int × Int) :=
  (ye1 nw l2 (0, cur, a_0, a_1, a_2, a_3))
def y56 (nw : Nat) (l2 : ya) (acts : List (List Int)) (iv : Int) (cur2 w : List Int) : Option ((Int × (List Int) × (List Int)) ⊕ ((List Int) × (List Int))) :=
  (bif (decide (iv < (↑acts.length : Int))) then (bif (inR iv acts.length) then (bif (inR (offs iv 0) acts.length) then ((y0d l2).bind fun y0 => ((y0o y0 (yk.mk (List.getD (acts.getD (Int.toNat (offs iv (0 : Nat))) (List.replicate (3 : Nat) (0 : Int))) (0 : Nat) (0 : Int)) (List.getD (acts.getD (Int.toNat (offs iv (0 : Nat))) (List.replicate (3 : Nat) (0 : Int))) (1 : Nat) (0 : Int)) (List.getD (acts.getD (Int.toNat (offs iv (0 : Nat))) (List.replicate (3 : Nat) (0 : Int))) (2 : Nat) (0 : Int))) w).bind fun y1 => (bif (inR iv acts.length) then (bif (inR (offs iv 0) acts.length) then ((y0m nw cur2 l2 (yk.mk (List.getD (acts.getD (Int.toNat (offs iv (0 : Nat))) (List.replicate (3 : Nat) (0 : Int))) (0 : Nat) (0 : Int)) (List.getD (acts.getD (Int.toNat (offs iv (0 : Nat))) (List.replicate (3 : Nat) (0 : Int))) (1 : Nat) (0 : Int)) (List.getD (acts.getD (Int.toNat (offs iv (0 : Nat))) (List.replicate (3 : Nat) (0 : Int))) (2 : Nat) (0 : Int))) y1).bind fun y6 => (bif (inR iv acts.length) then (bif (inR (offs iv 0) acts.length) then (bif (decide (List.getD (acts.getD (Int.toNat (offs iv (0 : Nat))) (List.replicate (3 : Nat) (0 : Int))) (0 : Nat) (0 : Int) ≥ (0 : Int))) then (bif (inR iv acts.length) then (bif (inR (offs iv 0) acts.length) then (bif (decide (List.getD (acts.getD (Int.toNat (offs iv (0 : Nat))) (List.replicate (3 : Nat) (0 : Int))) (0 : Nat) (0 : Int) < (2 : Int))) then (bif (y6.2.1 == 1) then (bif (decide (w.length + 1 ≤ 1048576)) then some (.inl ((IntKind.i64.wrap (iv + 1)), y6.2.2.2.2, (w ++ [y6.1]))) else none) else (bif (inR iv acts.length) then (bif (inR (offs iv 0) acts.length) then (bif (decide (List.getD (acts.getD (Int.toNat (offs iv (0 : Nat))) (List.replicate (3 : Nat) (0 : Int))) (0 : Nat) (0 : Int) ≥ (2 : Int))) then (bif (inR iv acts.length) then (bif (inR (offs iv 0) acts.length) then (bif (decide (List.getD (acts.getD (Int.toNat (offs iv (0 : Nat))) (List.replicate (3 : Nat) (0 : Int))) (0 : Nat) (0 : Int) < (4 : Int))) then (bif (y6.1 == 1) then ((y0f y1 w).bind fun y7 => some (.inl ((IntKind.i64.wrap (iv + 1)), y6.2.2.2.2, y7))) else some (.inl ((IntKind.i64.wrap (iv + 1)), y6.2.2.2.2, w))) else some (.inl ((IntKind.i64.wrap (iv + 1)), y6.2.2.2.2, w))) else none) else none) else some (.inl ((IntKind.i64.wrap (iv + 1)), y6.2.2.2.2, w))) else none) else none)) else (bif (inR iv acts.length) then (bif (inR (offs iv 0) acts.length) then (bif (decide (List.getD (acts.getD (Int.toNat (offs iv (0 : Nat))) (List.replicate (3 : Nat) (0 : Int))) (0 : Nat) (0 : Int) ≥ (2 : Int))) then (bif (inR iv acts.length) then (bif (inR (offs iv 0) acts.length) then (bif (decide (List.getD (acts.getD (Int.toNat (offs iv (0 : Nat))) (List.replicate (3 : Nat) (0 : Int))) (0 : Nat) (0 : Int) < (4 : Int))) then (bif (y6.1 == 1) then ((y0f y1 w).bind fun y8 => some (.inl ((IntKind.i64.wrap (iv + 1)), y6.2.2.2.2, y8))) else some (.inl ((IntKind.i64.wrap (iv + 1)), y6.2.2.2.2, w))) else some (.inl ((IntKind.i64.wrap (iv + 1)), y6.2.2.2.2, w))) else none) else none) else some (.inl ((IntKind.i64.wrap (iv + 1)), y6.2.2.2.2, w))) else none) else none)) else none) else none) else (bif (inR iv acts.length) then (bif (inR (offs iv 0) acts.length) then (bif (decide (List.getD (acts.getD (Int.toNat (offs iv (0 : Nat))) (List.replicate (3 : Nat) (0 : Int))) (0 : Nat) (0 : Int) ≥ (2 : Int))) then (bif (inR iv acts.length) then (bif (inR (offs iv 0) acts.length) then (bif (decide (List.getD (acts.getD (Int.toNat (offs iv (0 : Nat))) (List.replicate (3 : Nat) (0 : Int))) (0 : Nat) (0 : Int) < (4 : Int))) then (bif (y6.1 == 1) then ((y0f y1 w).bind fun y9 => some (.inl ((IntKind.i64.wrap (iv + 1)), y6.2.2.2.2, y9))) else some (.inl ((IntKind.i64.wrap (iv + 1)), y6.2.2.2.2, w))) else some (.inl ((IntKind.i64.wrap (iv + 1)), y6.2.2.2.2, w))) else none) else none) else some (.inl ((IntKind.i64.wrap (iv + 1)), y6.2.2.2.2, w))) else none) else none)) else none) else none)) else none) else none))) else none) else none) else some (.inr (cur2, w)))
def yd6 (nw : Nat) (l2 : ya) (acts : List (List Int)) (s : Int × (List Int) × (List Int)) : Option ((List Int) × (List Int)) :=
  loopO (fun s => y56 nw l2 acts s.1 s.2.1 s.2.2) s
def y2j (nw : Nat) (cur : List Int) (l2 : ya) (acts : List (List Int)) : Option ((List Int) × (List Int)) :=
  (yd6 nw l2 acts (0, cur, ([])))
attribute [local irreducible] Loop ex exF contK roundK retK at_ bodyOf mkEnv exFN
theorem yfd : SpecOK Tryz.prog elTT 23 (ya9 y0n) := by
  refine spec_of_exF (cfg := (yeq y0j y01)) (yg rfl rfl rfl) (yd ybl (yd ya4 ym)) (fn := Tryz.f23) (by kernel_rfl) (by kernel_rfl) (by kernel_rfl) ?_
  intro args H K h
  change y9t y0n args H K at h
  unfold y9t at h
  repeat first | (obtain ⟨_, h⟩ := h) | replace h := Des.el h
  subst_vars
  refine Eq.mpr (yfp y0j y01 _ _ _ _ _ _ _ _ _ _ _ _ _ K) ?_
  unfold y0n at h
  revert h
  exact andV (by assumption) (bind_So fun y0 => andV (by assumption) (bind_So fun y1 => fun h => h))
theorem lpok_law11_lives_1_L1 (ws cur : List Int) (xs : List Value) (l2 : ya) (a_0 a_1 : Int) (a_2 a_3 : Int) (U U2 : TypeId) (iv : Int) (cur2 : List Int) (c c2 : Int) (c3 c4 : Int) (K : V → Heap → Prop) (hx : xs.length ≤ 2) : So (ye1 ws.length l2 (iv, cur2, c, c2, c3, c4)) (fun (x : (List Int) × Int × Int × Int × Int) => K (.tup []) [.pk 0 [ws, x.1] xs [.row 3], .cells U (yc l2), .cells U2 [vi x.2.1, vi x.2.2.1, vi x.2.2.2.1, vi x.2.2.2.2], .row 0 ws true]) → Loop (y2s y01 y04) (⟨21, 4⟩ : Cx) (at_ (bodyOf Tryz.f35) [0, 1, 0, 0]) (mkEnv [(0, .ptr 0 0), (1, .ptr 1 0), (2, .ptr 2 0), (4, vi iv)]) [.pk 0 [ws, cur2] xs [.row 3], .cells U (yc l2), .cells U2 [vi c, vi c2, vi c3, vi c4], .row 0 ws true] (contK (y2s y01 y04) (⟨21, 4⟩ : Cx) (bodyOf Tryz.f35) [0, 1, 0] (retK (y2s y01 y04) Tryz.f35 4 K)) := by
  refine loopK_So (fun (s_ : Int × (List Int) × Int × Int × Int × Int) => (mkEnv [(0, .ptr 0 0), (1, .ptr 1 0), (2, .ptr 2 0), (4, vi s_.1)])) (fun (s_ : Int × (List Int) × Int × Int × Int × Int) => [.pk 0 [ws, s_.2.1] xs [.row 3], .cells U (yc l2), .cells U2 [vi s_.2.2.1, vi s_.2.2.2.1, vi s_.2.2.2.2.1, vi s_.2.2.2.2.2], .row 0 ws true]) (fun (x : (List Int) × Int × Int × Int × Int) => K (.tup []) [.pk 0 [ws, x.1] xs [.row 3], .cells U (yc l2), .cells U2 [vi x.2.1, vi x.2.2.1, vi x.2.2.2.1, vi x.2.2.2.2], .row 0 ws true]) ?_ (iv, cur2, c, c2, c3, c4)
  intro s_ J1 h
  clear iv
  clear cur2
  clear c
  clear c2
  clear c3
  clear c4
  obtain ⟨iv, cur2, c, c2, c3, c4⟩ := s_
  refine Eq.mpr (yh2 y01 y04 ws cur xs l2 a_0 a_1 a_2 a_3 U U2 iv cur2 c c2 c3 c4 K J1) ?_
  have h : So (y3j ws.length l2 iv cur2 c c2 c3 c4) _ := h
  unfold y3j at h
  revert h
  exact br_So (andV hx (bind_So fun y0 => req_So (br_So (fun h => h) (br_So (fun h => h) (br_So (fun h => h) (br_So (fun h => h) (fun _ => trivial))))))) (andV hx (bind_So fun y1 => fun h => h))
theorem ygd : SpecOK Tryz.prog elTT 35 (y8y y1x) := by
  refine spec_of_exF (cfg := (y2s y01 y04)) (yg rfl rfl rfl) (yd ya4 (yd ydm ym)) (fn := Tryz.f35) (by kernel_rfl) (by kernel_rfl) (by kernel_rfl) ?_
  intro args H K h
  change ya7 y1x args H K at h
  unfold ya7 at h
  repeat first | (obtain ⟨_, h⟩ := h) | replace h := Des.el h
  subst_vars
  refine Eq.mpr (ygw y01 y04 _ _ _ _ _ _ _ _ _ _ K) ?_
  unfold y1x at h
  revert h
  exact lpok_law11_lives_1_L1 _ (by first | assumption | exact default) _ _ (by first | assumption | exact default) (by first | assumption | exact default) (by first | assumption | exact default) (by first | assumption | exact default) _ _ _ _ _ _ _ _ K (by assumption)
theorem lpok_law11_after_1_L1 (ws cur : List Int) (xs : List Value) (l2 : ya) (acts : List (List Int)) (U U2 U3 : TypeId) (iv : Int) (cur2 w : List Int) (K : V → Heap → Prop) (hx : xs.length ≤ 2) : So (yd6 ws.length l2 acts (iv, cur2, w)) (fun (x : (List Int) × (List Int)) => K (.tup []) [.pk 0 [ws, x.1] xs [.row 4], .cells U [.row 6], .cells U2 [.row 5], .cells U3 (yc l2), .row 0 ws true, .row 6 acts true, .row 0 x.2 false]) → Loop (y3a y0d y0o y0m y0f) (⟨76, 6⟩ : Cx) (at_ (bodyOf Tryz.f48) [1, 1, 0, 0]) (mkEnv [(0, .ptr 0 0), (1, .ptr 1 0), (2, .ptr 2 0), (3, .ptr 3 0), (5, vi iv)]) [.pk 0 [ws, cur2] xs [.row 4], .cells U [.row 6], .cells U2 [.row 5], .cells U3 (yc l2), .row 0 ws true, .row 6 acts true, .row 0 w false] (contK (y3a y0d y0o y0m y0f) (⟨76, 6⟩ : Cx) (bodyOf Tryz.f48) [1, 1, 0] (retK (y3a y0d y0o y0m y0f) Tryz.f48 6 K)) := by
  refine loopK_So (fun (s_ : Int × (List Int) × (List Int)) => (mkEnv [(0, .ptr 0 0), (1, .ptr 1 0), (2, .ptr 2 0), (3, .ptr 3 0), (5, vi s_.1)])) (fun (s_ : Int × (List Int) × (List Int)) => [.pk 0 [ws, s_.2.1] xs [.row 4], .cells U [.row 6], .cells U2 [.row 5], .cells U3 (yc l2), .row 0 ws true, .row 6 acts true, .row 0 (s_.2.2 : List Int) false]) (fun (x : (List Int) × (List Int)) => K (.tup []) [.pk 0 [ws, x.1] xs [.row 4], .cells U [.row 6], .cells U2 [.row 5], .cells U3 (yc l2), .row 0 ws true, .row 6 acts true, .row 0 x.2 false]) ?_ (iv, cur2, w)
  intro s_ J1 h
  clear iv
  clear cur2
  clear w
  obtain ⟨iv, cur2, w⟩ := s_
  refine Eq.mpr (yiz y0d y0o y0m y0f ws cur xs l2 acts U U2 U3 iv cur2 w K J1) ?_
  have h : So (y56 ws.length l2 acts iv cur2 w) _ := h
  unfold y56 at h
  revert h
  exact br_So (req_So (req_So (bind_So fun y0 => bind_So fun y1 => req_So (req_So (alt_So (andV hx (bind_So fun y2 => req_So (req_So (br_So (req_So (req_So (br_So (br_So (req_So (fun h => h)) (req_So (req_So (br_So (req_So (req_So (br_So (br_So (bind_So fun y3 => fun h => h) (fun h => h)) (fun h => h)))) (fun h => h))))) (req_So (req_So (br_So (req_So (req_So (br_So (br_So (bind_So fun y4 => fun h => h) (fun h => h)) (fun h => h)))) (fun h => h))))))) (req_So (req_So (br_So (req_So (req_So (br_So (br_So (bind_So fun y5 => fun h => h) (fun h => h)) (fun h => h)))) (fun h => h)))))))) (andV hx (bind_So fun y6 => req_So (req_So (br_So (req_So (req_So (br_So (br_So (req_So (fun h => h)) (req_So (req_So (br_So (req_So (req_So (br_So (br_So (bind_So fun y7 => fun h => h) (fun h => h)) (fun h => h)))) (fun h => h))))) (req_So (req_So (br_So (req_So (req_So (br_So (br_So (bind_So fun y8 => fun h => h) (fun h => h)) (fun h => h)))) (fun h => h))))))) (req_So (req_So (br_So (req_So (req_So (br_So (br_So (bind_So fun y9 => fun h => h) (fun h => h)) (fun h => h)))) (fun h => h))))))))))))) (fun h => h)
theorem yg4 : SpecOK Tryz.prog elTT 48 (y87 y2j) := by
  refine spec_of_exFN (cfg := (y3a y0d y0o y0m y0f)) (yg rfl rfl rfl) (yd yf3 (yd yk4 (yd ygg (yd yj2 ym)))) (nx := [(1, 0)]) (fn := Tryz.f48) (by kernel_rfl) (by kernel_rfl) (by kernel_rfl) ?_
  intro args H K h
  change ya6 y2j args H K at h
  unfold ya6 at h
  repeat first | (obtain ⟨_, h⟩ := h) | replace h := Des.el h
  subst_vars
  refine Eq.mpr (yhx y0d y0o y0m y0f _ _ _ _ _ _ _ _ K) ?_
  unfold y2j at h
  revert h
  exact lpok_law11_after_1_L1 _ (by first | assumption | exact default) _ _ _ _ _ _ _ _ _ K (by assumption)
end Go.Rx
end

section
namespace Go.Rx
open Go.Proofs
theorem number_eq (b : Bool) : yq b = some (if b = true then 1 else 0) := by cases b <;> rfl
theorem acts3 {acts : List (List Int)} (n : Nat) (h : n < acts.length) : acts.getD n (List.replicate 3 0) = acts[n] := by simp [List.getD, h]
section
variable {c : yb} {w inn : List Int} {ls : Int → Int → List Int}
theorem same11 (h : RightC c) {nw : Nat} (v : VOK (layC c) nw w) (i : Inv11 (layC c) w inn ls) (a : yk) (at_ : Int) :
    ∃ r : Int × Int × Int × Int × List Int, y0m nw w (layC c) a at_ = some r ∧ ycj ⟨c⟩ a at_ w = some r ∧ r.2.2.2.2.length = w.length ∧ ∃ inn' ls', Inv11 (layC c) r.2.2.2.2 inn' ls' := by
  have hnw := v.len
  subst hnw
  have hn : (layC c).at_11 ≤ (w.length : Int) := v.all
  have grab : ∃ r : Int × Int × Int × Int × List Int, ((y01 w.length w (layC c) a.C).bind fun y0 => ((yq (Prod.fst (Prod.snd y0))).bind fun y1 => some (((Prod.fst y0), (y1), (0), (0), (Prod.snd (Prod.snd y0)))))) = some r ∧
      ((y3x ⟨c⟩ a.C w).bind fun y0 => ((yq (Prod.fst (Prod.snd y0))).bind fun y1 => some (((Prod.fst y0), (y1), (0), (0), (Prod.snd (Prod.snd y0)))))) = some r ∧ r.2.2.2.2.length = w.length ∧ ∃ inn' ls', Inv11 (layC c) r.2.2.2.2 inn' ls' := by
    obtain ⟨x, b, u, e1, s1⟩ := pGrab_eq v i a.C
    obtain ⟨x', b', u', e2, s2⟩ := rGrab_eq h v i a.C
    obtain ⟨rfl, rfl, rfl⟩ := s1.uniq s2
    have hi := s1.inv v.lay hn i
    rw [e1, e2, Option.bind_some, number_eq]
    exact ⟨_, rfl, rfl, hi⟩
  have ret : ∃ r : Int × Int × Int × Int × List Int, ((y1h w.length w (layC c) at_).bind fun y2 => ((yq (Prod.fst y2)).bind fun y3 => some (((y3), (0), (0), (0), (Prod.snd y2))))) = some r ∧
      ((y4c ⟨c⟩ at_ w).bind fun y2 => ((yq (Prod.fst y2)).bind fun y3 => some (((y3), (0), (0), (0), (Prod.snd y2))))) = some r ∧ r.2.2.2.2.length = w.length ∧ ∃ inn' ls', Inv11 (layC c) r.2.2.2.2 inn' ls' := by
    obtain ⟨b, u, e1, s1⟩ := pReturn_eq v i at_
    obtain ⟨b', u', e2, s2⟩ := rReturn_eq h v i at_
    obtain ⟨rfl, rfl⟩ := s1.uniq s2
    have hi := s1.inv v.lay hn i
    rw [e1, e2, Option.bind_some, number_eq]
    exact ⟨_, rfl, rfl, hi⟩
  have look : ∃ r : Int × Int × Int × Int × List Int, ((y0v w.length w (layC c) at_).bind fun y4 => ((yq (Prod.snd y4)).bind fun y5 => ((y0j w.length w (layC c) a.C).bind fun y6 => ((yq y6).bind fun y7 => ((y04 w.length w (layC c) a.C).bind fun y8 => some (((Prod.fst y4), (y5), (y7), (y8), (w)))))))) = some r ∧
      ((y3m ⟨c⟩ at_ w).bind fun y4 => ((yq (Prod.snd y4)).bind fun y5 => ((y4e ⟨c⟩ a.C w).bind fun y6 => ((yq y6).bind fun y7 => ((y4v ⟨c⟩ a.C w).bind fun y8 => some (((Prod.fst y4), (y5), (y7), (y8), (w)))))))) = some r ∧ r.2.2.2.2.length = w.length ∧ ∃ inn' ls', Inv11 (layC c) r.2.2.2.2 inn' ls' := by
    have e : y0v w.length w (layC c) at_ = y3m ⟨c⟩ at_ w := by
      rcases pTaken_eq v i at_ with ⟨p, q, m, j, t, e1⟩ | ⟨n1, e1⟩ <;> rcases rTaken_eq h v i at_ with ⟨p', q', m', j', t', _, e2⟩ | ⟨n2, e2⟩
      · have e3 : p = p' := t.page.trans t'.page.symm
        subst e3
        have e4 : q = q' := by have := t.kind; have := t'.kind; omega
        rw [e1, e2, e4]
      · exact (n2 _ _ _ _ t).elim
      · exact (n1 _ _ _ _ t').elim
      · rw [e1, e2]
    rw [e, pRoom_eq v i, pFree_eq v i, rRoom_eq h v i, rFree_eq h v i]
    have e0 : (layC c).c = c := rfl
    rw [e0]
    rcases rTaken_eq h v i at_ with ⟨p', q', m', j', t', _, e2⟩ | ⟨n2, e2⟩ <;> rw [e2] <;> simp only [Option.bind_some, number_eq] <;> exact ⟨_, rfl, rfl, rfl, _, _, i⟩
  unfold y0m ycj
  by_cases k0 : a.Kind = 0
  · rw [beq_iff_eq.2 k0]; simp only [cond_true]; exact grab
  rw [beq_eq_false_iff_ne.2 k0, cond_false, cond_false]
  by_cases k1 : a.Kind = 1
  · rw [beq_iff_eq.2 k1]; simp only [cond_true]; exact grab
  rw [beq_eq_false_iff_ne.2 k1, cond_false, cond_false]
  by_cases k2 : a.Kind = 2
  · rw [beq_iff_eq.2 k2]; simp only [cond_true]; exact ret
  rw [beq_eq_false_iff_ne.2 k2, cond_false, cond_false]
  by_cases k3 : a.Kind = 3
  · rw [beq_iff_eq.2 k3]; simp only [cond_true]; exact ret
  rw [beq_eq_false_iff_ne.2 k3]; simp only [cond_false]; exact look
end
theorem bat_eq (user : Int) (a : yk) {b : List Int} (hb : b.length ≤ 1048576) : ∃ x, y0o user a b = some x := by
  unfold y0o
  by_cases k : a.Kind = 2
  · rw [beq_iff_eq.2 k, cond_true]
    by_cases l : (b.length : Int) > 0
    · rw [decide_eq_true l, cond_true]
      have e1 : IntKind.wrap IntKind.u64 (b.length : Int) = (b.length : Int) := by rw [wrap_u64]; omega
      have e2 : 0 ≤ IntKind.wrap IntKind.u64 a.N := by rw [wrap_u64]; omega
      rw [e1]
      have e3 : (!((b.length : Int) == 0)) = true := by rw [beq_eq_false_iff_ne.2 (by omega)]; rfl
      rw [e3, cond_true, Int.tmod_eq_emod_of_nonneg e2]
      have h1 := Int.emod_nonneg (IntKind.wrap IntKind.u64 a.N) (b := (b.length : Int)) (by omega)
      have h2 := Int.emod_lt_of_pos (IntKind.wrap IntKind.u64 a.N) (b := (b.length : Int)) (by omega)
      generalize IntKind.wrap IntKind.u64 a.N % (b.length : Int) = r at *
      rw [wrap_id (by omega) (by omega), inR_int h1 h2, cond_true, offs_id h1, inR_int h1 h2, cond_true]
      exact ⟨_, rfl⟩
    · rw [decide_eq_false l, cond_false]; exact ⟨_, rfl⟩
  · rw [beq_eq_false_iff_ne.2 k, cond_false]; exact ⟨_, rfl⟩
theorem without_eq (a : Int) {b : List Int} (hb : b.length ≤ 1048576) : ∃ x, y0f a b = some x ∧ x.length ≤ b.length :=
  loopO_ind (step := fun s : Int × List Int => y54 a b s.1 s.2)
    (I := fun s => ∃ j : Nat, j ≤ b.length ∧ s.1 = j ∧ s.2.length ≤ j) (μ := fun s => b.length - s.1.toNat) (fun r => r.length ≤ b.length) (by
      rintro ⟨_, u⟩ ⟨j, hj, rfl, hu⟩
      simp only at hu ⊢
      simp only [y54]
      by_cases cc : j < b.length
      · have ho : offs (j : Int) 0 = (j : Int) := rfl
        rw [decide_eq_true (show (j : Int) < (b.length : Int) by omega), cond_true, inR_nat cc, cond_true, ho, inR_nat cc, cond_true, wrap_succ (by omega)]
        cases (b.getD (j : Int).toNat 0 != a) with
        | true =>
          rw [cond_true, cond_true, cond_true, decide_eq_true (by omega), cond_true]
          exact .inl ⟨_, rfl, ⟨j + 1, cc, rfl, by simp; omega⟩, by simp only; omega⟩
        | false =>
          rw [cond_false]
          exact .inl ⟨_, rfl, ⟨j + 1, cc, rfl, by simp only; omega⟩, by simp only; omega⟩
      · rw [decide_eq_false (by omega), cond_false]
        exact .inr ⟨_, rfl, by omega⟩) (0, []) ⟨0, by omega, rfl, by simp⟩
theorem after111_eq {c : yb} (h : RightC c) {nw : Nat} {w inn : List Int} {ls : Int → Int → List Int} (v : VOK (layC c) nw w) (i : Inv11 (layC c) w inn ls) {acts : List (List Int)} (hl : acts.length ≤ 1000) :
    ∃ u b, y2j nw w (layC c) acts = some (u, b) ∧ VOK (layC c) nw u ∧ ∃ inn' ls', Inv11 (layC c) u inn' ls' := by
  unfold y2j
  obtain ⟨r, h1, h2⟩ := loopO_ind (step := fun s : Int × List Int × List Int => y56 nw (layC c) acts s.1 s.2.1 s.2.2)
    (I := fun s => ∃ j : Nat, j ≤ acts.length ∧ s.1 = j ∧ VOK (layC c) nw s.2.1 ∧ s.2.2.length ≤ j ∧ ∃ inn' ls', Inv11 (layC c) s.2.1 inn' ls') (μ := fun s => acts.length - s.1.toNat)
    (fun r => VOK (layC c) nw r.1 ∧ ∃ inn' ls', Inv11 (layC c) r.1 inn' ls') (by
      rintro ⟨_, u, b⟩ ⟨j, hj, rfl, vu, hb, inn', ls', iu⟩
      simp only at vu hb iu ⊢
      simp only [y56]
      by_cases cc : j < acts.length
      · have ho : offs (j : Int) 0 = (j : Int) := rfl
        simp only [ho, inR_nat cc, cond_true, Int.toNat_natCast, acts3 j cc, User_eq, Option.bind_some]
        rw [decide_eq_true (show (j : Int) < (acts.length : Int) by omega), cond_true]
        obtain ⟨x, e1⟩ := bat_eq (layC c).at_10 ⟨acts[j].getD 0 0, acts[j].getD 1 0, acts[j].getD 2 0⟩ (b := b) (by omega)
        obtain ⟨⟨r0, r1, r2, r3, u'⟩, d1, _, d3, inn2, ls2, d4⟩ := same11 h vu iu ⟨acts[j].getD 0 0, acts[j].getD 1 0, acts[j].getD 2 0⟩ x
        simp only at d3 d4
        have vu' : VOK (layC c) nw u' := ⟨vu.lay, by rw [d3]; exact vu.len, vu.all⟩
        obtain ⟨y, e2, e3⟩ := without_eq x (b := b) (by omega)
        have ea : decide (b.length + 1 ≤ 1048576) = true := decide_eq_true (by omega)
        rw [e1, Option.bind_some, d1, Option.bind_some, wrap_succ (by omega)]
        simp only [ea, e2, Option.bind_some, cond_true]
        have push : ∃ j' : Nat, j' ≤ acts.length ∧ ((j + 1 : Nat) : Int) = j' ∧ VOK (layC c) nw u' ∧ (b ++ [r0]).length ≤ j' ∧ ∃ inn' ls', Inv11 (layC c) u' inn' ls' := ⟨j + 1, cc, rfl, vu', by simp; omega, _, _, d4⟩
        have cut : ∃ j' : Nat, j' ≤ acts.length ∧ ((j + 1 : Nat) : Int) = j' ∧ VOK (layC c) nw u' ∧ y.length ≤ j' ∧ ∃ inn' ls', Inv11 (layC c) u' inn' ls' := ⟨j + 1, cc, rfl, vu', by omega, _, _, d4⟩
        have stay : ∃ j' : Nat, j' ≤ acts.length ∧ ((j + 1 : Nat) : Int) = j' ∧ VOK (layC c) nw u' ∧ b.length ≤ j' ∧ ∃ inn' ls', Inv11 (layC c) u' inn' ls' := ⟨j + 1, cc, rfl, vu', by omega, _, _, d4⟩
        have mu : acts.length - ((j + 1 : Nat) : Int).toNat < acts.length - (j : Int).toNat := by omega
        generalize decide (acts[j].getD 0 0 ≥ 0) = t1
        generalize decide (acts[j].getD 0 0 < 2) = t2
        generalize decide (acts[j].getD 0 0 ≥ 2) = t3
        generalize decide (acts[j].getD 0 0 < 4) = t4
        generalize (r1 == 1) = t5
        generalize (r0 == 1) = t6
        cases t1 <;> cases t2 <;> cases t3 <;> cases t4 <;> cases t5 <;> cases t6 <;> simp only [cond_true, cond_false] <;> first | exact .inl ⟨_, rfl, push, mu⟩ | exact .inl ⟨_, rfl, cut, mu⟩ | exact .inl ⟨_, rfl, stay, mu⟩
      · rw [decide_eq_false (by omega), cond_false]
        exact .inr ⟨_, rfl, vu, _, _, iu⟩) (0, w, []) ⟨0, by omega, rfl, v, by simp, _, _, i⟩
  exact ⟨r.1, r.2, h1, h2.1, h2.2⟩
end Go.Rx
end

noncomputable section
namespace Go.Rx
open Go.Proofs
set_option maxRecDepth 100000
set_option maxHeartbeats 4000000
def y94 (m_ : Y5) (args : List V) (H : Heap) (K : V → Heap → Prop) : Prop :=
  aC args fun a0 r => aC r fun a1 r => aN r <| aRow 0 a0 <| aFn 23 a1 fun cs => aC cs fun p0 r => aC r fun p1 r => aC r fun p2 r => aC r fun p3 r => aC r fun p4 r => aN r <| aPtr 1 p0 <| aPtr 2 p1 <| aPtr 3 p2 <| aPtr 4 p3 <| aPtr 5 p4 <| aC H fun b6 r => aC r fun b1 r => aC r fun b2 r => aC r fun b3 r => aC r fun b4 r => aC r fun b5 r => aN r <| bRow 0 true b6 fun (ws : List Int) => bCells b1 fun U c1 => yr c1 fun l2 => bCells b2 fun U2 c2 => aC c2 fun d2_0 r => aInt d2_0 fun q => aN r <| bCells b3 fun U3 c3 => aC c3 fun d3_0 r => aBool d3_0 fun room => aN r <| bCells b4 fun U4 c4 => aC c4 fun d4_0 r => aInt d4_0 fun a => aN r <| bCells b5 fun U5 c5 => aC c5 fun d5_0 r => aBool d5_0 fun got => aN r <| Req (Nat.ble ws.length 1048576) (So (m_ ws.length ws l2 q room a got) fun x => ∀ nd : List Pr, K (.tup [.row 6, .row 7, vi 0]) [.row 0 ws true, .cells U (yc l2), .cells U2 [vi q], .cells U3 [vb x.2.1], .cells U4 [vi x.2.2.1], .cells U5 [vb x.2.2.2], .row 0 x.1 false, .row 2 nd false])
def yax (m_ : Y5) : Spec := ⟨y94 m_, (true : Bool)⟩
def cfgDo_law11_PagesFullest_1 (m_ : Y5) : Cfg := cfgDo 23 (ya9 m_) [(0, none), (7, none), (10, none), (31, none), (32, none), (33, none)]
def y8e (m_ : Y6) (args : List V) (H : Heap) (K : V → Heap → Prop) : Prop :=
  aC args fun a0 r => aC r fun a1 r => aN r <| aRow 0 a0 <| aFn 35 a1 fun cs => aC cs fun p0 r => aC r fun p1 r => aN r <| aPtr 1 p0 <| aPtr 2 p1 <| aC H fun b3 r => aC r fun b1 r => aC r fun b2 r => aN r <| bRow 0 true b3 fun (ws : List Int) => bCells b1 fun U c1 => yr c1 fun l2 => bCells b2 fun U2 c2 => aC c2 fun d2_0 r => aInt d2_0 fun a_0 => aC r fun d2_1 r => aInt d2_1 fun a_1 => aC r fun d2_2 r => aInt d2_2 fun a_2 => aC r fun d2_3 r => aInt d2_3 fun a_3 => aN r <| Req (Nat.ble ws.length 1048576) (So (m_ ws.length ws l2 a_0 a_1 a_2 a_3) fun x => ∀ nd : List Pr, K (.tup [.row 3, .row 4, vi 0]) [.row 0 ws true, .cells U (yc l2), .cells U2 [vi x.2.1, vi x.2.2.1, vi x.2.2.2.1, vi x.2.2.2.2], .row 0 x.1 false, .row 2 nd false])
def ydd (m_ : Y6) : Spec := ⟨y8e m_, (true : Bool)⟩
def cfgDo_law11_lives_1 (m_ : Y6) : Cfg := cfgDo 35 (y8y m_) [(0, none), (7, none), (10, none), (31, none), (32, none), (33, none)]
def y9w (m_ : Nat → (List Int) → ya → (List (List Int)) → Option ((List Int) × (List Int))) (args : List V) (H : Heap) (K : V → Heap → Prop) : Prop :=
  aC args fun a0 r => aC r fun a1 r => aN r <| aRow 0 a0 <| aFn 48 a1 fun cs => aC cs fun p0 r => aC r fun p1 r => aC r fun p2 r => aN r <| aPtr 1 p0 <| aPtr 2 p1 <| aPtr 3 p2 <| aC H fun b4 r => aC r fun b1 r => aC r fun b2 r => aC r fun b3 r => aC r fun b5 r => aN r <| bRow 0 true b4 fun (ws : List Int) => bCells b1 fun U c1 => aC c1 fun d1_0 r => aNilS d1_0 <| aN r <| bCells b2 fun U2 c2 => aC c2 fun d2_0 r => aRow 4 d2_0 <| aN r <| bCells b3 fun U3 c3 => yr c3 fun l2 => bRow 6 true b5 fun (acts : List (List Int)) => Req (Nat.ble ws.length 1048576) (So (m_ ws.length ws l2 acts) fun x => ∀ nd : List Pr, K (.tup [.row 5, .row 6, vi 0]) [.row 0 ws true, .cells U [.row 7], .cells U2 [.row 4], .cells U3 (yc l2), .row 6 acts true, .row 0 x.1 false, .row 2 nd false, .row 0 x.2 false])
def ye7 (m_ : Nat → (List Int) → ya → (List (List Int)) → Option ((List Int) × (List Int))) : Spec := ⟨y9w m_, (true : Bool)⟩
def cfgDo_law11_after_1 (m_ : Nat → (List Int) → ya → (List (List Int)) → Option ((List Int) × (List Int))) : Cfg := cfgDo 48 (y87 m_) [(0, none), (7, none), (10, none), (31, none), (32, none), (33, none)]
theorem yhp (m_ : Y5) (ws : List Int) (l2 : ya) (q : Int) (room : Bool) (a : Int) (got : Bool) (U U2 : TypeId) (U3 U4 U5 : TypeId) (K : V → Heap → Prop) : (exF (cfgDo_law11_PagesFullest_1 m_) Tryz.f10 [.row 0, .fn 23 [.ptr 1 0, .ptr 2 0, .ptr 3 0, .ptr 4 0, .ptr 5 0]] [.row 0 ws true, .cells U (yc l2), .cells U2 [vi q], .cells U3 [vb room], .cells U4 [vi a], .cells U5 [vb got]] K) = (
    Req (decide (ws.length ≤ 1048576)) (∀ (y0 : Go.Value), ((ws = ws) ∧ ((1 ≤ 2) ∧ (So (m_ ws.length ws l2 q room a got) (fun (y1 : List Int × Bool × Int × Bool) => ((y0 = y0) ∧ (∀ (y2 : Int → Option Int), (∀ (y3 : Nat), (∀ (y4 : List Pr), (∀ (y5 : List (List Int)), ((ViewOK ws y1.1 y2 y4 y5) → (Req (Nat.ble y5.length 1048576) (Req (decide (0 + ws.length ≤ 1048576)) (Loop (cfgDo_law11_PagesFullest_1 m_) (⟨54, 6⟩ : Cx) (at_ (bodyOf Tryz.f10) [1, 1, 1, 1, 1, 1, 0, 1, 0, 0]) (mkEnv [(0, .row 0), (7, .ptr 6 0), (10, .row 7), (31, .row 8), (32, vi (↑(List.length (List.map prOf y5)) : Int)), (33, vi 0)]) [.row 0 ws true, .cells U (yc l2), .cells U2 [vi q], .cells U3 [vb y1.2.1], .cells U4 [vi y1.2.2.1], .cells U5 [vb y1.2.2.2], .cells 0 [.row 0, .mp 9, .row 10], .row 0 ws false, .row 2 (List.map prOf y5 : List Pr) false, .map y2 y3, .row 2 y4 false] (contK (cfgDo_law11_PagesFullest_1 m_) (⟨54, 6⟩ : Cx) (bodyOf Tryz.f10) [1, 1, 1, 1, 1, 1, 0, 1, 0] (retK (cfgDo_law11_PagesFullest_1 m_) Tryz.f10 6 K))))))))))))))))) := by kernel_rfl
theorem yjs (m_ : Y5) (ws : List Int) (l2 : ya) (q : Int) (room : Bool) (a : Int) (got : Bool) (U U2 : TypeId) (U3 U4 U5 : TypeId) (x : (List Int) × Bool × Int × Bool) (now_ : List Int) (ps_ nd_ : List Pr) (mm_ : Int → Option Int) (mn_ : Nat) (len_ j_ : Int) (K : V → Heap → Prop) (J1 : Env → Heap → Prop) : (ex (cfgDo_law11_PagesFullest_1 m_) (⟨54, 6⟩ : Cx) (at_ (bodyOf Tryz.f10) [1, 1, 1, 1, 1, 1, 0, 1, 0, 0]) (mkEnv [(0, .row 0), (7, .ptr 6 0), (10, .row 7), (31, .row 8), (32, vi len_), (33, vi j_)]) [.row 0 ws true, .cells U (yc l2), .cells U2 [vi q], .cells U3 [vb x.2.1], .cells U4 [vi x.2.2.1], .cells U5 [vb x.2.2.2], .cells 0 [.row 0, .mp 9, .row 10], .row 0 now_ false, .row 2 ps_ false, .map mm_ mn_, .row 2 nd_ false] (roundK (cfgDo_law11_PagesFullest_1 m_) (⟨54, 6⟩ : Cx) (at_ (bodyOf Tryz.f10) [1, 1, 1, 1, 1, 1, 0, 1, 0, 0]) (contK (cfgDo_law11_PagesFullest_1 m_) (⟨54, 6⟩ : Cx) (bodyOf Tryz.f10) [1, 1, 1, 1, 1, 1, 0, 1, 0] (retK (cfgDo_law11_PagesFullest_1 m_) Tryz.f10 6 K)) J1)) = (
    br (decide (j_ < len_)) (Req (inR j_ ps_.length) (Req (inR (offs j_ 0) ps_.length) (br (decide (Pr.Addr (ps_.getD (offs j_ 0).toNat (Pr.mk 0 0)) ≥ (↑ws.length : Int))) (K (.tup [.row 6, .row 7, vi 3]) [.row 0 ws true, .cells U (yc l2), .cells U2 [vi q], .cells U3 [vb x.2.1], .cells U4 [vi x.2.2.1], .cells U5 [vb x.2.2.2], .row 0 ([] : List Int) false, .row 2 ([] : List Pr) false]) (Req (inR (Pr.Addr (ps_.getD (offs j_ 0).toNat (Pr.mk 0 0))) now_.length) (Req (inR (offs (Pr.Addr (ps_.getD (offs j_ 0).toNat (Pr.mk 0 0))) 0) now_.length) (J1 (mkEnv [(0, .row 0), (7, .ptr 6 0), (10, .row 7), (31, .row 8), (32, vi len_), (33, vi (IntKind.i64.wrap (j_ + 1)))]) [.row 0 ws true, .cells U (yc l2), .cells U2 [vi q], .cells U3 [vb x.2.1], .cells U4 [vi x.2.2.1], .cells U5 [vb x.2.2.2], .cells 0 [.row 0, .mp 9, .row 10], .row 0 (List.set now_ (Int.toNat (offs (Pr.Addr (ps_.getD (offs j_ 0).toNat (Pr.mk 0 0))) 0)) (Pr.Val (ps_.getD (offs j_ 0).toNat (Pr.mk 0 0))) : List Int) false, .row 2 ps_ false, .map mm_ mn_, .row 2 nd_ false])))))) (K (.tup [.row 6, .row 7, vi 0]) [.row 0 ws true, .cells U (yc l2), .cells U2 [vi q], .cells U3 [vb x.2.1], .cells U4 [vi x.2.2.1], .cells U5 [vb x.2.2.2], .row 0 now_ false, .row 2 nd_ false])) := by kernel_rfl
theorem yhh (m_ : Y6) (ws : List Int) (l2 : ya) (a_0 a_1 : Int) (a_2 a_3 : Int) (U U2 : TypeId) (K : V → Heap → Prop) : (exF (cfgDo_law11_lives_1 m_) Tryz.f10 [.row 0, .fn 35 [.ptr 1 0, .ptr 2 0]] [.row 0 ws true, .cells U (yc l2), .cells U2 [vi a_0, vi a_1, vi a_2, vi a_3]] K) = (
    Req (decide (ws.length ≤ 1048576)) (∀ (y0 : Go.Value), ((ws = ws) ∧ ((1 ≤ 2) ∧ (So (m_ ws.length ws l2 a_0 a_1 a_2 a_3) (fun (y1 : List Int × Int × Int × Int × Int) => ((y0 = y0) ∧ (∀ (y2 : Int → Option Int), (∀ (y3 : Nat), (∀ (y4 : List Pr), (∀ (y5 : List (List Int)), ((ViewOK ws y1.1 y2 y4 y5) → (Req (Nat.ble y5.length 1048576) (Req (decide (0 + ws.length ≤ 1048576)) (Loop (cfgDo_law11_lives_1 m_) (⟨54, 3⟩ : Cx) (at_ (bodyOf Tryz.f10) [1, 1, 1, 1, 1, 1, 0, 1, 0, 0]) (mkEnv [(0, .row 0), (7, .ptr 3 0), (10, .row 4), (31, .row 5), (32, vi (↑(List.length (List.map prOf y5)) : Int)), (33, vi 0)]) [.row 0 ws true, .cells U (yc l2), .cells U2 [vi y1.2.1, vi y1.2.2.1, vi y1.2.2.2.1, vi y1.2.2.2.2], .cells 0 [.row 0, .mp 6, .row 7], .row 0 ws false, .row 2 (List.map prOf y5 : List Pr) false, .map y2 y3, .row 2 y4 false] (contK (cfgDo_law11_lives_1 m_) (⟨54, 3⟩ : Cx) (bodyOf Tryz.f10) [1, 1, 1, 1, 1, 1, 0, 1, 0] (retK (cfgDo_law11_lives_1 m_) Tryz.f10 3 K))))))))))))))))) := by kernel_rfl
theorem yjo (m_ : Y6) (ws : List Int) (l2 : ya) (a_0 a_1 : Int) (a_2 a_3 : Int) (U U2 : TypeId) (x : (List Int) × Int × Int × Int × Int) (now_ : List Int) (ps_ nd_ : List Pr) (mm_ : Int → Option Int) (mn_ : Nat) (len_ j_ : Int) (K : V → Heap → Prop) (J1 : Env → Heap → Prop) : (ex (cfgDo_law11_lives_1 m_) (⟨54, 3⟩ : Cx) (at_ (bodyOf Tryz.f10) [1, 1, 1, 1, 1, 1, 0, 1, 0, 0]) (mkEnv [(0, .row 0), (7, .ptr 3 0), (10, .row 4), (31, .row 5), (32, vi len_), (33, vi j_)]) [.row 0 ws true, .cells U (yc l2), .cells U2 [vi x.2.1, vi x.2.2.1, vi x.2.2.2.1, vi x.2.2.2.2], .cells 0 [.row 0, .mp 6, .row 7], .row 0 now_ false, .row 2 ps_ false, .map mm_ mn_, .row 2 nd_ false] (roundK (cfgDo_law11_lives_1 m_) (⟨54, 3⟩ : Cx) (at_ (bodyOf Tryz.f10) [1, 1, 1, 1, 1, 1, 0, 1, 0, 0]) (contK (cfgDo_law11_lives_1 m_) (⟨54, 3⟩ : Cx) (bodyOf Tryz.f10) [1, 1, 1, 1, 1, 1, 0, 1, 0] (retK (cfgDo_law11_lives_1 m_) Tryz.f10 3 K)) J1)) = (
    br (decide (j_ < len_)) (Req (inR j_ ps_.length) (Req (inR (offs j_ 0) ps_.length) (br (decide (Pr.Addr (ps_.getD (offs j_ 0).toNat (Pr.mk 0 0)) ≥ (↑ws.length : Int))) (K (.tup [.row 3, .row 4, vi 3]) [.row 0 ws true, .cells U (yc l2), .cells U2 [vi x.2.1, vi x.2.2.1, vi x.2.2.2.1, vi x.2.2.2.2], .row 0 ([] : List Int) false, .row 2 ([] : List Pr) false]) (Req (inR (Pr.Addr (ps_.getD (offs j_ 0).toNat (Pr.mk 0 0))) now_.length) (Req (inR (offs (Pr.Addr (ps_.getD (offs j_ 0).toNat (Pr.mk 0 0))) 0) now_.length) (J1 (mkEnv [(0, .row 0), (7, .ptr 3 0), (10, .row 4), (31, .row 5), (32, vi len_), (33, vi (IntKind.i64.wrap (j_ + 1)))]) [.row 0 ws true, .cells U (yc l2), .cells U2 [vi x.2.1, vi x.2.2.1, vi x.2.2.2.1, vi x.2.2.2.2], .cells 0 [.row 0, .mp 6, .row 7], .row 0 (List.set now_ (Int.toNat (offs (Pr.Addr (ps_.getD (offs j_ 0).toNat (Pr.mk 0 0))) 0)) (Pr.Val (ps_.getD (offs j_ 0).toNat (Pr.mk 0 0))) : List Int) false, .row 2 ps_ false, .map mm_ mn_, .row 2 nd_ false])))))) (K (.tup [.row 3, .row 4, vi 0]) [.row 0 ws true, .cells U (yc l2), .cells U2 [vi x.2.1, vi x.2.2.1, vi x.2.2.2.1, vi x.2.2.2.2], .row 0 now_ false, .row 2 nd_ false])) := by kernel_rfl
theorem yg6 (m_ : Nat → (List Int) → ya → (List (List Int)) → Option ((List Int) × (List Int))) (ws : List Int) (l2 : ya) (acts : List (List Int)) (U U2 U3 : TypeId) (K : V → Heap → Prop) : (exF (cfgDo_law11_after_1 m_) Tryz.f10 [.row 0, .fn 48 [.ptr 1 0, .ptr 2 0, .ptr 3 0]] [.row 0 ws true, .cells U [.ext (.slice none 0 0)], .cells U2 [.row 4], .cells U3 (yc l2), .row 6 acts true] K) = (
    Req (decide (ws.length ≤ 1048576)) (∀ (y0 : Go.Value), ((ws = ws) ∧ ((1 ≤ 2) ∧ (So (m_ ws.length ws l2 acts) (fun (y1 : List Int × List Int) => ((y0 = y0) ∧ (∀ (y2 : Int → Option Int), (∀ (y3 : Nat), (∀ (y4 : List Pr), (∀ (y5 : List (List Int)), ((ViewOK ws y1.1 y2 y4 y5) → (Req (Nat.ble y5.length 1048576) (Req (decide (0 + ws.length ≤ 1048576)) (Loop (cfgDo_law11_after_1 m_) (⟨54, 5⟩ : Cx) (at_ (bodyOf Tryz.f10) [1, 1, 1, 1, 1, 1, 0, 1, 0, 0]) (mkEnv [(0, .row 0), (7, .ptr 5 0), (10, .row 6), (31, .row 7), (32, vi (↑(List.length (List.map prOf y5)) : Int)), (33, vi 0)]) [.row 0 ws true, .cells U [.row 8], .cells U2 [.row 4], .cells U3 (yc l2), .row 6 acts true, .cells 0 [.row 0, .mp 9, .row 10], .row 0 ws false, .row 2 (List.map prOf y5 : List Pr) false, .row 0 (y1.2 : List Int) false, .map y2 y3, .row 2 y4 false] (contK (cfgDo_law11_after_1 m_) (⟨54, 5⟩ : Cx) (bodyOf Tryz.f10) [1, 1, 1, 1, 1, 1, 0, 1, 0] (retK (cfgDo_law11_after_1 m_) Tryz.f10 5 K))))))))))))))))) := by kernel_rfl
theorem yjb (m_ : Nat → (List Int) → ya → (List (List Int)) → Option ((List Int) × (List Int))) (ws : List Int) (l2 : ya) (acts : List (List Int)) (U U2 U3 : TypeId) (x : (List Int) × (List Int)) (now_ : List Int) (ps_ nd_ : List Pr) (mm_ : Int → Option Int) (mn_ : Nat) (len_ j_ : Int) (K : V → Heap → Prop) (J1 : Env → Heap → Prop) : (ex (cfgDo_law11_after_1 m_) (⟨54, 5⟩ : Cx) (at_ (bodyOf Tryz.f10) [1, 1, 1, 1, 1, 1, 0, 1, 0, 0]) (mkEnv [(0, .row 0), (7, .ptr 5 0), (10, .row 6), (31, .row 7), (32, vi len_), (33, vi j_)]) [.row 0 ws true, .cells U [.row 8], .cells U2 [.row 4], .cells U3 (yc l2), .row 6 acts true, .cells 0 [.row 0, .mp 9, .row 10], .row 0 now_ false, .row 2 ps_ false, .row 0 x.2 false, .map mm_ mn_, .row 2 nd_ false] (roundK (cfgDo_law11_after_1 m_) (⟨54, 5⟩ : Cx) (at_ (bodyOf Tryz.f10) [1, 1, 1, 1, 1, 1, 0, 1, 0, 0]) (contK (cfgDo_law11_after_1 m_) (⟨54, 5⟩ : Cx) (bodyOf Tryz.f10) [1, 1, 1, 1, 1, 1, 0, 1, 0] (retK (cfgDo_law11_after_1 m_) Tryz.f10 5 K)) J1)) = (
    br (decide (j_ < len_)) (Req (inR j_ ps_.length) (Req (inR (offs j_ 0) ps_.length) (br (decide (Pr.Addr (ps_.getD (offs j_ 0).toNat (Pr.mk 0 0)) ≥ (↑ws.length : Int))) (K (.tup [.row 5, .row 6, vi 3]) [.row 0 ws true, .cells U [.row 7], .cells U2 [.row 4], .cells U3 (yc l2), .row 6 acts true, .row 0 ([] : List Int) false, .row 2 ([] : List Pr) false, .row 0 (x.2 : List Int) false]) (Req (inR (Pr.Addr (ps_.getD (offs j_ 0).toNat (Pr.mk 0 0))) now_.length) (Req (inR (offs (Pr.Addr (ps_.getD (offs j_ 0).toNat (Pr.mk 0 0))) 0) now_.length) (J1 (mkEnv [(0, .row 0), (7, .ptr 5 0), (10, .row 6), (31, .row 7), (32, vi len_), (33, vi (IntKind.i64.wrap (j_ + 1)))]) [.row 0 ws true, .cells U [.row 8], .cells U2 [.row 4], .cells U3 (yc l2), .row 6 acts true, .cells 0 [.row 0, .mp 9, .row 10], .row 0 (List.set now_ (Int.toNat (offs (Pr.Addr (ps_.getD (offs j_ 0).toNat (Pr.mk 0 0))) 0)) (Pr.Val (ps_.getD (offs j_ 0).toNat (Pr.mk 0 0))) : List Int) false, .row 2 ps_ false, .row 0 (x.2 : List Int) false, .map mm_ mn_, .row 2 nd_ false])))))) (K (.tup [.row 5, .row 6, vi 0]) [.row 0 ws true, .cells U [.row 7], .cells U2 [.row 4], .cells U3 (yc l2), .row 6 acts true, .row 0 now_ false, .row 2 nd_ false, .row 0 (x.2 : List Int) false])) := by kernel_rfl
attribute [local irreducible] Loop ex exF contK roundK retK at_ bodyOf mkEnv
theorem okdo_law11_PagesFullest_1 {m_ : Nat → (List Int) → ya → Int → Bool → Int → Bool → Option ((List Int) × Bool × Int × Bool)} (hm : SpecOK Tryz.prog elTT 23 (ya9 m_)) : SpecOK Tryz.prog elTT 10 (yax m_) := by
  refine spec_of_exF (cfg := cfgDo_law11_PagesFullest_1 m_) (yg rfl rfl rfl) (sigDo_ok hm) (fn := Tryz.f10) (by kernel_rfl) (by kernel_rfl) (by kernel_rfl) ?_
  intro args H K h
  change y94 m_ args H K at h
  unfold y94 at h
  replace h := aC_el h
  obtain ⟨a0, _, rfl, h⟩ := h
  replace h := aC_el h
  obtain ⟨a1, _, rfl, h⟩ := h
  replace h := aN_el h
  obtain ⟨rfl, h⟩ := h
  replace h := aRow_el h
  obtain ⟨rfl, h⟩ := h
  replace h := aFn_el h
  obtain ⟨cs, rfl, h⟩ := h
  replace h := aC_el h
  obtain ⟨p0, _, rfl, h⟩ := h
  replace h := aC_el h
  obtain ⟨p1, _, rfl, h⟩ := h
  replace h := aC_el h
  obtain ⟨p2, _, rfl, h⟩ := h
  replace h := aC_el h
  obtain ⟨p3, _, rfl, h⟩ := h
  replace h := aC_el h
  obtain ⟨p4, _, rfl, h⟩ := h
  replace h := aN_el h
  obtain ⟨rfl, h⟩ := h
  replace h := aPtr_el h
  obtain ⟨rfl, h⟩ := h
  replace h := aPtr_el h
  obtain ⟨rfl, h⟩ := h
  replace h := aPtr_el h
  obtain ⟨rfl, h⟩ := h
  replace h := aPtr_el h
  obtain ⟨rfl, h⟩ := h
  replace h := aPtr_el h
  obtain ⟨rfl, h⟩ := h
  replace h := aC_el h
  obtain ⟨b6, _, rfl, h⟩ := h
  replace h := aC_el h
  obtain ⟨b1, _, rfl, h⟩ := h
  replace h := aC_el h
  obtain ⟨b2, _, rfl, h⟩ := h
  replace h := aC_el h
  obtain ⟨b3, _, rfl, h⟩ := h
  replace h := aC_el h
  obtain ⟨b4, _, rfl, h⟩ := h
  replace h := aC_el h
  obtain ⟨b5, _, rfl, h⟩ := h
  replace h := aN_el h
  obtain ⟨rfl, h⟩ := h
  replace h := bRow_el h
  obtain ⟨(ws : List Int), rfl, h⟩ := h
  replace h := bCells_el h
  obtain ⟨U, c1, rfl, h⟩ := h
  replace h := y5m h
  obtain ⟨l2, rfl, h⟩ := h
  replace h := bCells_el h
  obtain ⟨U2, c2, rfl, h⟩ := h
  replace h := aC_el h
  obtain ⟨d2_0, _, rfl, h⟩ := h
  replace h := aInt_el h
  obtain ⟨q, rfl, h⟩ := h
  replace h := aN_el h
  obtain ⟨rfl, h⟩ := h
  replace h := bCells_el h
  obtain ⟨U3, c3, rfl, h⟩ := h
  replace h := aC_el h
  obtain ⟨d3_0, _, rfl, h⟩ := h
  replace h := aBool_el h
  obtain ⟨room, rfl, h⟩ := h
  replace h := aN_el h
  obtain ⟨rfl, h⟩ := h
  replace h := bCells_el h
  obtain ⟨U4, c4, rfl, h⟩ := h
  replace h := aC_el h
  obtain ⟨d4_0, _, rfl, h⟩ := h
  replace h := aInt_el h
  obtain ⟨a, rfl, h⟩ := h
  replace h := aN_el h
  obtain ⟨rfl, h⟩ := h
  replace h := bCells_el h
  obtain ⟨U5, c5, rfl, h⟩ := h
  replace h := aC_el h
  obtain ⟨d5_0, _, rfl, h⟩ := h
  replace h := aBool_el h
  obtain ⟨got, rfl, h⟩ := h
  replace h := aN_el h
  obtain ⟨rfl, h⟩ := h
  replace h := Req_el h
  obtain ⟨hsm, h⟩ := h
  have hsm := Nat.le_of_ble_eq_true hsm
  refine Eq.mpr (yhp m_ ws l2 q room a got U U2 U3 U4 U5 K) (Req_intro (by simpa using hsm) fun y => ⟨rfl, by decide, ?_⟩)
  refine So_imp h fun x hk => ?_
  refine ⟨rfl, fun mm mn nd its hv => Req_intro (Nat.ble_eq_true_of_le (by have := view_its hv; omega)) (Req_intro (decide_eq_true (by omega)) ?_)⟩
  have hlen := view_its hv
  refine loop_ind (σ := Nat) (fun j => (mkEnv [(0, .row 0), (7, .ptr 6 0), (10, .row 7), (31, .row 8), (32, vi ((its.map prOf).length : Int)), (33, vi ((j : Nat) : Int))]))
    (fun j => [.row 0 ws true, .cells U (yc l2), .cells U2 [vi q], .cells U3 [vb x.2.1], .cells U4 [vi x.2.2.1], .cells U5 [vb x.2.2.2], .cells 0 [.row 0, .mp 9, .row 10], .row 0 (nowN ws its j) false, .row 2 (its.map prOf) false, .map mm mn, .row 2 nd false]) (fun j => j ≤ its.length) (fun j => its.length - j) ?_ 0 (Nat.zero_le _)
  intro j hj J hJ
  refine Eq.mpr (yjs m_ ws l2 q room a got U U2 U3 U4 U5 x (nowN ws its j) (its.map prOf) nd mm mn _ j K J) (br_intro (fun h1 => ?_) (fun h1 => ?_))
  · have h1 : j < its.length := by simpa using h1
    have h1' : j < (its.map prOf).length := by simpa using h1
    obtain ⟨p1, p2⟩ := pr_in hv h1
    have hnx := hJ (j + 1) h1 (by omega)
    simp only [offs_nat, inR_nat h1', Req_true, Int.toNat_natCast, wrap_succ (show j ≤ 4611686018427387904 by omega), prs_get h1]
    simp only [nowN] at hnx
    generalize prOf (its.getD j []) = p at *
    have hoff : offs p.Addr 0 = p.Addr := by
      have e : p.Addr = ((p.Addr.toNat : Nat) : Int) := by omega
      rw [e]; rfl
    have hin : inR p.Addr (nowN ws its j).length = true := by rw [nowN_len]; exact inR_int p1 p2
    refine br_false (decide_eq_false (by omega)) (Req_intro hin (Req_intro (by rw [hoff]; exact hin) ?_))
    rw [hoff]
    exact hnx
  · have h1 : j = its.length := by simp at h1; omega
    subst h1
    rw [nowN_all hv]
    exact hk nd
theorem okdo_law11_lives_1 {m_ : Nat → (List Int) → ya → Int → Int → Int → Int → Option ((List Int) × Int × Int × Int × Int)} (hm : SpecOK Tryz.prog elTT 35 (y8y m_)) : SpecOK Tryz.prog elTT 10 (ydd m_) := by
  refine spec_of_exF (cfg := cfgDo_law11_lives_1 m_) (yg rfl rfl rfl) (sigDo_ok hm) (fn := Tryz.f10) (by kernel_rfl) (by kernel_rfl) (by kernel_rfl) ?_
  intro args H K h
  change y8e m_ args H K at h
  unfold y8e at h
  replace h := aC_el h
  obtain ⟨a0, _, rfl, h⟩ := h
  replace h := aC_el h
  obtain ⟨a1, _, rfl, h⟩ := h
  replace h := aN_el h
  obtain ⟨rfl, h⟩ := h
  replace h := aRow_el h
  obtain ⟨rfl, h⟩ := h
  replace h := aFn_el h
  obtain ⟨cs, rfl, h⟩ := h
  replace h := aC_el h
  obtain ⟨p0, _, rfl, h⟩ := h
  replace h := aC_el h
  obtain ⟨p1, _, rfl, h⟩ := h
  replace h := aN_el h
  obtain ⟨rfl, h⟩ := h
  replace h := aPtr_el h
  obtain ⟨rfl, h⟩ := h
  replace h := aPtr_el h
  obtain ⟨rfl, h⟩ := h
  replace h := aC_el h
  obtain ⟨b3, _, rfl, h⟩ := h
  replace h := aC_el h
  obtain ⟨b1, _, rfl, h⟩ := h
  replace h := aC_el h
  obtain ⟨b2, _, rfl, h⟩ := h
  replace h := aN_el h
  obtain ⟨rfl, h⟩ := h
  replace h := bRow_el h
  obtain ⟨(ws : List Int), rfl, h⟩ := h
  replace h := bCells_el h
  obtain ⟨U, c1, rfl, h⟩ := h
  replace h := y5m h
  obtain ⟨l2, rfl, h⟩ := h
  replace h := bCells_el h
  obtain ⟨U2, c2, rfl, h⟩ := h
  replace h := aC_el h
  obtain ⟨d2_0, _, rfl, h⟩ := h
  replace h := aInt_el h
  obtain ⟨a_0, rfl, h⟩ := h
  replace h := aC_el h
  obtain ⟨d2_1, _, rfl, h⟩ := h
  replace h := aInt_el h
  obtain ⟨a_1, rfl, h⟩ := h
  replace h := aC_el h
  obtain ⟨d2_2, _, rfl, h⟩ := h
  replace h := aInt_el h
  obtain ⟨a_2, rfl, h⟩ := h
  replace h := aC_el h
  obtain ⟨d2_3, _, rfl, h⟩ := h
  replace h := aInt_el h
  obtain ⟨a_3, rfl, h⟩ := h
  replace h := aN_el h
  obtain ⟨rfl, h⟩ := h
  replace h := Req_el h
  obtain ⟨hsm, h⟩ := h
  have hsm := Nat.le_of_ble_eq_true hsm
  refine Eq.mpr (yhh m_ ws l2 a_0 a_1 a_2 a_3 U U2 K) (Req_intro (by simpa using hsm) fun y => ⟨rfl, by decide, ?_⟩)
  refine So_imp h fun x hk => ?_
  refine ⟨rfl, fun mm mn nd its hv => Req_intro (Nat.ble_eq_true_of_le (by have := view_its hv; omega)) (Req_intro (decide_eq_true (by omega)) ?_)⟩
  have hlen := view_its hv
  refine loop_ind (σ := Nat) (fun j => (mkEnv [(0, .row 0), (7, .ptr 3 0), (10, .row 4), (31, .row 5), (32, vi ((its.map prOf).length : Int)), (33, vi ((j : Nat) : Int))]))
    (fun j => [.row 0 ws true, .cells U (yc l2), .cells U2 [vi x.2.1, vi x.2.2.1, vi x.2.2.2.1, vi x.2.2.2.2], .cells 0 [.row 0, .mp 6, .row 7], .row 0 (nowN ws its j) false, .row 2 (its.map prOf) false, .map mm mn, .row 2 nd false]) (fun j => j ≤ its.length) (fun j => its.length - j) ?_ 0 (Nat.zero_le _)
  intro j hj J hJ
  refine Eq.mpr (yjo m_ ws l2 a_0 a_1 a_2 a_3 U U2 x (nowN ws its j) (its.map prOf) nd mm mn _ j K J) (br_intro (fun h1 => ?_) (fun h1 => ?_))
  · have h1 : j < its.length := by simpa using h1
    have h1' : j < (its.map prOf).length := by simpa using h1
    obtain ⟨p1, p2⟩ := pr_in hv h1
    have hnx := hJ (j + 1) h1 (by omega)
    simp only [offs_nat, inR_nat h1', Req_true, Int.toNat_natCast, wrap_succ (show j ≤ 4611686018427387904 by omega), prs_get h1]
    simp only [nowN] at hnx
    generalize prOf (its.getD j []) = p at *
    have hoff : offs p.Addr 0 = p.Addr := by
      have e : p.Addr = ((p.Addr.toNat : Nat) : Int) := by omega
      rw [e]; rfl
    have hin : inR p.Addr (nowN ws its j).length = true := by rw [nowN_len]; exact inR_int p1 p2
    refine br_false (decide_eq_false (by omega)) (Req_intro hin (Req_intro (by rw [hoff]; exact hin) ?_))
    rw [hoff]
    exact hnx
  · have h1 : j = its.length := by simp at h1; omega
    subst h1
    rw [nowN_all hv]
    exact hk nd
theorem okdo_law11_after_1 {m_ : Nat → (List Int) → ya → (List (List Int)) → Option ((List Int) × (List Int))} (hm : SpecOK Tryz.prog elTT 48 (y87 m_)) : SpecOK Tryz.prog elTT 10 (ye7 m_) := by
  refine spec_of_exF (cfg := cfgDo_law11_after_1 m_) (yg rfl rfl rfl) (sigDo_ok hm) (fn := Tryz.f10) (by kernel_rfl) (by kernel_rfl) (by kernel_rfl) ?_
  intro args H K h
  change y9w m_ args H K at h
  unfold y9w at h
  replace h := aC_el h
  obtain ⟨a0, _, rfl, h⟩ := h
  replace h := aC_el h
  obtain ⟨a1, _, rfl, h⟩ := h
  replace h := aN_el h
  obtain ⟨rfl, h⟩ := h
  replace h := aRow_el h
  obtain ⟨rfl, h⟩ := h
  replace h := aFn_el h
  obtain ⟨cs, rfl, h⟩ := h
  replace h := aC_el h
  obtain ⟨p0, _, rfl, h⟩ := h
  replace h := aC_el h
  obtain ⟨p1, _, rfl, h⟩ := h
  replace h := aC_el h
  obtain ⟨p2, _, rfl, h⟩ := h
  replace h := aN_el h
  obtain ⟨rfl, h⟩ := h
  replace h := aPtr_el h
  obtain ⟨rfl, h⟩ := h
  replace h := aPtr_el h
  obtain ⟨rfl, h⟩ := h
  replace h := aPtr_el h
  obtain ⟨rfl, h⟩ := h
  replace h := aC_el h
  obtain ⟨b4, _, rfl, h⟩ := h
  replace h := aC_el h
  obtain ⟨b1, _, rfl, h⟩ := h
  replace h := aC_el h
  obtain ⟨b2, _, rfl, h⟩ := h
  replace h := aC_el h
  obtain ⟨b3, _, rfl, h⟩ := h
  replace h := aC_el h
  obtain ⟨b5, _, rfl, h⟩ := h
  replace h := aN_el h
  obtain ⟨rfl, h⟩ := h
  replace h := bRow_el h
  obtain ⟨(ws : List Int), rfl, h⟩ := h
  replace h := bCells_el h
  obtain ⟨U, c1, rfl, h⟩ := h
  replace h := aC_el h
  obtain ⟨d1_0, _, rfl, h⟩ := h
  replace h := aNilS_el h
  obtain ⟨rfl, h⟩ := h
  replace h := aN_el h
  obtain ⟨rfl, h⟩ := h
  replace h := bCells_el h
  obtain ⟨U2, c2, rfl, h⟩ := h
  replace h := aC_el h
  obtain ⟨d2_0, _, rfl, h⟩ := h
  replace h := aRow_el h
  obtain ⟨rfl, h⟩ := h
  replace h := aN_el h
  obtain ⟨rfl, h⟩ := h
  replace h := bCells_el h
  obtain ⟨U3, c3, rfl, h⟩ := h
  replace h := y5m h
  obtain ⟨l2, rfl, h⟩ := h
  replace h := bRow_el h
  obtain ⟨(acts : List (List Int)), rfl, h⟩ := h
  replace h := Req_el h
  obtain ⟨hsm, h⟩ := h
  have hsm := Nat.le_of_ble_eq_true hsm
  refine Eq.mpr (yg6 m_ ws l2 acts U U2 U3 K) (Req_intro (by simpa using hsm) fun y => ⟨rfl, by decide, ?_⟩)
  refine So_imp h fun x hk => ?_
  refine ⟨rfl, fun mm mn nd its hv => Req_intro (Nat.ble_eq_true_of_le (by have := view_its hv; omega)) (Req_intro (decide_eq_true (by omega)) ?_)⟩
  have hlen := view_its hv
  refine loop_ind (σ := Nat) (fun j => (mkEnv [(0, .row 0), (7, .ptr 5 0), (10, .row 6), (31, .row 7), (32, vi ((its.map prOf).length : Int)), (33, vi ((j : Nat) : Int))]))
    (fun j => [.row 0 ws true, .cells U [.row 8], .cells U2 [.row 4], .cells U3 (yc l2), .row 6 acts true, .cells 0 [.row 0, .mp 9, .row 10], .row 0 (nowN ws its j) false, .row 2 (its.map prOf) false, .row 0 x.2 false, .map mm mn, .row 2 nd false]) (fun j => j ≤ its.length) (fun j => its.length - j) ?_ 0 (Nat.zero_le _)
  intro j hj J hJ
  refine Eq.mpr (yjb m_ ws l2 acts U U2 U3 x (nowN ws its j) (its.map prOf) nd mm mn _ j K J) (br_intro (fun h1 => ?_) (fun h1 => ?_))
  · have h1 : j < its.length := by simpa using h1
    have h1' : j < (its.map prOf).length := by simpa using h1
    obtain ⟨p1, p2⟩ := pr_in hv h1
    have hnx := hJ (j + 1) h1 (by omega)
    simp only [offs_nat, inR_nat h1', Req_true, Int.toNat_natCast, wrap_succ (show j ≤ 4611686018427387904 by omega), prs_get h1]
    simp only [nowN] at hnx
    generalize prOf (its.getD j []) = p at *
    have hoff : offs p.Addr 0 = p.Addr := by
      have e : p.Addr = ((p.Addr.toNat : Nat) : Int) := by omega
      rw [e]; rfl
    have hin : inR p.Addr (nowN ws its j).length = true := by rw [nowN_len]; exact inR_int p1 p2
    refine br_false (decide_eq_false (by omega)) (Req_intro hin (Req_intro (by rw [hoff]; exact hin) ?_))
    rw [hoff]
    exact hnx
  · have h1 : j = its.length := by simp at h1; omega
    subst h1
    rw [nowN_all hv]
    exact hk nd
end Go.Rx
end

noncomputable section
namespace Go.Rx
open Go.Proofs
set_option maxRecDepth 100000
set_option maxHeartbeats 4000000
def y92 (m_ : Option Bool) (args : List V) (H : Heap) (K : V → Heap → Prop) : Prop :=
  aN args <| aN H <| So (m_ ) fun x => K (vb x) []
def ybi (m_ : Option Bool) : Spec := ⟨y92 m_, (true : Bool)⟩
def y7y (m_ : yb → (List (List Int)) → Option (ya × (List Int) × (List Int) × Bool)) (args : List V) (H : Heap) (K : V → Heap → Prop) : Prop :=
  aC args fun a0 r => aC r fun a1 r => aN r <| aAgg a0 fun c0 => y3l c0 fun c => aRow 0 a1 <| aC H fun b0 r => aN r <| bRow 6 true b0 fun (acts : List (List Int)) => So (m_ c acts) fun x => K (.tup [.agg (yc x.1), .row 1, .row 2, vb x.2.2.2]) [.row 6 acts true, .row 0 x.2.1 false, .row 0 x.2.2.1 false]
def yas (m_ : yb → (List (List Int)) → Option (ya × (List Int) × (List Int) × Bool)) : Spec := ⟨y7y m_, (true : Bool)⟩
def y7h (m_ : yb → Int → (List (List Int)) → Option Bool) (args : List V) (H : Heap) (K : V → Heap → Prop) : Prop :=
  aC args fun a0 r => aC r fun a1 r => aC r fun a2 r => aN r <| aAgg a0 fun c0 => y3l c0 fun c => aRow 0 a1 <| aInt a2 fun q => aC H fun b0 r => aN r <| bRow 6 true b0 fun (acts : List (List Int)) => So (m_ c q acts) fun x => K (vb x) [.row 6 acts true]
def yig (m_ : yb → Int → (List (List Int)) → Option Bool) : Spec := ⟨y7h m_, (true : Bool)⟩
def ydy (y1d : Y38) (y0x : Y43) (y3d : Y26) (y1x : Y6) (y0d : Y26) : Cfg := { cfgB with
  sigs := (sigC 32 (y8s y1d) (sigC 33 (yah y0x) (sigC 34 (yey y3d) (sigC 10 (ydd y1x) (sigC 36 (yai y0d) sigN))))),
  plan := fun r => match r with | 6 => some (List.range 35, 0) | _ => none }
def yca (y2m : Y42) (y2j : Nat → (List Int) → ya → (List (List Int)) → Option ((List Int) × (List Int))) : Cfg := { cfgB with
  sigs := (sigC 7 (yf4 y2m) (sigC 10 (ye7 y2j) sigN)),
  plan := fun r => match r with | 4 => some (List.range 16, 48) | _ => none,
  flag := fun d => Nat.beq d 4 }
def y2u (y02 : Option Bool) (y0s : yb → (List (List Int)) → Option (ya × (List Int) × (List Int) × Bool)) (yi : Y22) (yx : Y1) (yl yh : Y4) (yn : Y1) (yu : Y14) (y0n : Y5) (y06 : Y28) (y05 : Y37) : Cfg := { cfgB with
  sigs := (sigC 6 (ybi y02) (sigC 16 (yas y0s) (sigC 17 (y3q yi) (sigC 18 (y5x yx) (sigC 19 (y4j yl) (sigC 20 (y4h yh) (sigC 22 (y4q yn) (sigC 21 (y6h yu) (sigC 10 (yax y0n) (sigC 26 (y80 y06) (sigC 27 (y6e y05) sigN))))))))))),
  keep := fun r => match r with | 8 => some [(5, none), (7, none), (8, some 0), (11, none), (12, none), (13, none)] | _ => none,
  plan := fun r => match r with | 13 => some ([0, 2, 3, 4, 8, 1, 5, 6, 7, 9, 10, 11, 12], 0) | 18 => some (List.range 22, 0) | 27 => some ([0, 2, 3, 4, 8, 1, 5, 6, 7, 9, 10, 11, 12], 0) | 28 => some ([0, 1, 2, 6, 7, 3, 4, 5, 8, 9, 10, 11, 12, 13, 14, 15, 16, 17, 21, 22, 18, 19, 20, 23, 24, 25, 26, 27, 28, 29, 30, 31], 0) | _ => none }
theorem yfr (y1d : Y38) (y0x : Y43) (y3d : Y26) (y1x : Y6) (y0d : Y26) (K : V → Heap → Prop) : (exF (ydy y1d y0x y3d y1x y0d) Tryz.f6 [] [] K) = (
    So (y1d (yb.mk 0 0 0 0 0 0 0 0 0 0 0)) (fun (y0 : yb) => (So (y0x (yb.mk y0.Workers y0.CPUs 2 y0.Stripes y0.Tries y0.Wait y0.Clock y0.Private y0.Cache y0.Bin y0.Batch)) (fun (y1 : ya × Int) => (So (y3d y1.1) (fun (y2 : Int) => (Req (decide (0 ≤ y2 ∧ y2 ≤ y2 ∧ y2 ≤ 1048576)) (Req (Nat.ble (List.length (List.replicate (Int.toNat y2) (0 : Int))) (1048576 : Nat)) (So (y1x (List.length (List.replicate (Int.toNat y2) (0 : Int))) (List.replicate (Int.toNat y2) (0 : Int)) y1.1 (0 : Int) (0 : Int) (0 : Int) (0 : Int)) (fun (y3 : List Int × Int × Int × Int × Int) => (∀ (y4 : List Pr), (br (y1.2 == 0) (So (y0d y1.1) (fun (y5 : Int) => (br (y3.2.1 == y5) (br (y3.2.2.1 == IntKind.i64.wrap (y3.2.1 + 16)) (br (y3.2.2.2.1 == IntKind.i64.wrap (y3.2.1 + 32)) (K (vb (y3.2.2.2.2 == 1)) []) (K (vb false) [])) (K (vb false) [])) (K (vb false) [])))) (K (vb false) []))))))))))))) := by kernel_rfl
theorem yjc (y2m : Y42) (y2j : Nat → (List Int) → ya → (List (List Int)) → Option ((List Int) × (List Int))) (c : yb) (acts : List (List Int)) (K : V → Heap → Prop) : (exF (yca y2m y2j) Tryz.f16 [.agg (y1l c), .row 0] [.row 6 acts true] K) = (
    So (y2m c) (fun (y0 : ya × yf × List Int) => (Req (Nat.ble y0.2.2.length 1048576) (So (y2j y0.2.2.length y0.2.2 y0.1 acts) (fun (y1 : List Int × List Int) => (∀ (y2 : List Pr), (K (.tup [.agg (yc y0.1), .row 1, .row 2, vb ((↑y1.1.length : Int) == (↑y0.2.2.length : Int))]) [.row 6 acts true, .row 0 (y1.1 : List Int) false, .row 0 (y1.2 : List Int) false]))))))) := by kernel_rfl
theorem yfs (y02 : Option Bool) (y0s : yb → (List (List Int)) → Option (ya × (List Int) × (List Int) × Bool)) (yi : Y22) (yx : Y1) (yl yh : Y4) (yn : Y1) (yu : Y14) (y0n : Y5) (y06 : Y28) (y05 : Y37) (c : yb) (q : Int) (acts : List (List Int)) (least : Int) (openv : Bool) (p : Int) (c2 : ya) (w : List Int) (K : V → Heap → Prop) (J1 : Env → Heap → Prop) : (ex (y2u y02 y0s yi yx yl yh yn yu y0n y06 y05) (⟨195, 1⟩ : Cx) (at_ (bodyOf Tryz.f4) [1, 1, 1, 1, 1, 0, 1, 0, 0]) (mkEnv [(5, .ptr 1 0), (7, .ptr 2 0), (8, .row 3), (11, vi least), (12, vb openv), (13, vi p)]) [.row 6 acts true, .cells 3 [vi q], .cells 28 (yc c2), .row 0 w false] (roundK (y2u y02 y0s yi yx yl yh yn yu y0n y06 y05) (⟨195, 1⟩ : Cx) (at_ (bodyOf Tryz.f4) [1, 1, 1, 1, 1, 0, 1, 0, 0]) (contK (y2u y02 y0s yi yx yl yh yn yu y0n y06 y05) (⟨195, 1⟩ : Cx) (bodyOf Tryz.f4) [1, 1, 1, 1, 1, 0, 1, 0] (retK (y2u y02 y0s yi yx yl yh yn yu y0n y06 y05) Tryz.f4 1 K)) J1)) = (
    So (yi c2) (fun (y0 : yb) => (br (decide (p < y0.Pages)) (So (yx c2 p) (fun (y1 : Int) => (Req (inR y1 w.length) (Req (inR (offs y1 0) w.length) (br openv (So (yl q) (fun (y2 : Int) => (br (decide (y2 > 0)) (br (w.getD (offs y1 0).toNat 0 == IntKind.i64.wrap (q + 1)) (So (yh q) (fun (y3 : Int) => (So (yn c2 p) (fun (y4 : Int) => (Req (inR y4 w.length) (Req (inR (offs y4 0) w.length) (So (yh q) (fun (y5 : Int) => (So (yu (w.getD (offs y4 0).toNat 0) y5) (fun (y6 : Int) => (br (decide (IntKind.i64.wrap (y3 - y6) > 0)) (br (least == 0) (J1 (mkEnv [(5, .ptr 1 0), (7, .ptr 2 0), (8, .row 3), (11, vi (IntKind.i64.wrap (y3 - y6))), (12, vb true), (13, vi (IntKind.i64.wrap (p + 1)))]) [.row 6 acts true, .cells 3 [vi q], .cells 28 (yc c2), .row 0 w false]) (br (decide (IntKind.i64.wrap (y3 - y6) < least)) (J1 (mkEnv [(5, .ptr 1 0), (7, .ptr 2 0), (8, .row 3), (11, vi (IntKind.i64.wrap (y3 - y6))), (12, vb true), (13, vi (IntKind.i64.wrap (p + 1)))]) [.row 6 acts true, .cells 3 [vi q], .cells 28 (yc c2), .row 0 w false]) (J1 (mkEnv [(5, .ptr 1 0), (7, .ptr 2 0), (8, .row 3), (11, vi least), (12, vb true), (13, vi (IntKind.i64.wrap (p + 1)))]) [.row 6 acts true, .cells 3 [vi q], .cells 28 (yc c2), .row 0 w false]))) (J1 (mkEnv [(5, .ptr 1 0), (7, .ptr 2 0), (8, .row 3), (11, vi least), (12, vb true), (13, vi (IntKind.i64.wrap (p + 1)))]) [.row 6 acts true, .cells 3 [vi q], .cells 28 (yc c2), .row 0 w false])))))))))))) (J1 (mkEnv [(5, .ptr 1 0), (7, .ptr 2 0), (8, .row 3), (11, vi least), (12, vb true), (13, vi (IntKind.i64.wrap (p + 1)))]) [.row 6 acts true, .cells 3 [vi q], .cells 28 (yc c2), .row 0 w false])) (J1 (mkEnv [(5, .ptr 1 0), (7, .ptr 2 0), (8, .row 3), (11, vi least), (12, vb true), (13, vi (IntKind.i64.wrap (p + 1)))]) [.row 6 acts true, .cells 3 [vi q], .cells 28 (yc c2), .row 0 w false])))) (So (yl q) (fun (y7 : Int) => (br (decide (y7 > 0)) (br (w.getD (offs y1 0).toNat 0 == IntKind.i64.wrap (q + 1)) (So (yh q) (fun (y8 : Int) => (So (yn c2 p) (fun (y9 : Int) => (Req (inR y9 w.length) (Req (inR (offs y9 0) w.length) (So (yh q) (fun (y10 : Int) => (So (yu (w.getD (offs y9 0).toNat 0) y10) (fun (y11 : Int) => (br (decide (IntKind.i64.wrap (y8 - y11) > 0)) (br (least == 0) (J1 (mkEnv [(5, .ptr 1 0), (7, .ptr 2 0), (8, .row 3), (11, vi (IntKind.i64.wrap (y8 - y11))), (12, vb (w.getD (offs y1 0).toNat 0 == 0)), (13, vi (IntKind.i64.wrap (p + 1)))]) [.row 6 acts true, .cells 3 [vi q], .cells 28 (yc c2), .row 0 w false]) (br (decide (IntKind.i64.wrap (y8 - y11) < least)) (J1 (mkEnv [(5, .ptr 1 0), (7, .ptr 2 0), (8, .row 3), (11, vi (IntKind.i64.wrap (y8 - y11))), (12, vb (w.getD (offs y1 0).toNat 0 == 0)), (13, vi (IntKind.i64.wrap (p + 1)))]) [.row 6 acts true, .cells 3 [vi q], .cells 28 (yc c2), .row 0 w false]) (J1 (mkEnv [(5, .ptr 1 0), (7, .ptr 2 0), (8, .row 3), (11, vi least), (12, vb (w.getD (offs y1 0).toNat 0 == 0)), (13, vi (IntKind.i64.wrap (p + 1)))]) [.row 6 acts true, .cells 3 [vi q], .cells 28 (yc c2), .row 0 w false]))) (J1 (mkEnv [(5, .ptr 1 0), (7, .ptr 2 0), (8, .row 3), (11, vi least), (12, vb (w.getD (offs y1 0).toNat 0 == 0)), (13, vi (IntKind.i64.wrap (p + 1)))]) [.row 6 acts true, .cells 3 [vi q], .cells 28 (yc c2), .row 0 w false])))))))))))) (J1 (mkEnv [(5, .ptr 1 0), (7, .ptr 2 0), (8, .row 3), (11, vi least), (12, vb (w.getD (offs y1 0).toNat 0 == 0)), (13, vi (IntKind.i64.wrap (p + 1)))]) [.row 6 acts true, .cells 3 [vi q], .cells 28 (yc c2), .row 0 w false])) (J1 (mkEnv [(5, .ptr 1 0), (7, .ptr 2 0), (8, .row 3), (11, vi least), (12, vb (w.getD (offs y1 0).toNat 0 == 0)), (13, vi (IntKind.i64.wrap (p + 1)))]) [.row 6 acts true, .cells 3 [vi q], .cells 28 (yc c2), .row 0 w false]))))))))) (Req (Nat.ble w.length 1048576) (So (y0n w.length w c2 q false 0 false) (fun (y12 : List Int × Bool × Int × Bool) => (∀ (y13 : List Pr), (So (yl q) (fun (y14 : Int) => (br (decide (y14 > 0)) (br (decide (least > 0)) (br (!y12.2.2.2 == true) (K (vb false) [.row 6 acts true]) (br (!y12.2.1 == decide (least > 0)) (K (vb false) [.row 6 acts true]) (br (!y12.2.2.2) (br (y12.2.2.1 == 0) (So y02 (fun (y15 : Bool) => (K (vb y15) [.row 6 acts true]))) (K (vb false) [.row 6 acts true])) (So (y06 c2 y12.2.2.1) (fun (y16 : Int × Int × Bool) => (br (!y16.2.2) (K (vb false) [.row 6 acts true]) (br (least == 0) (So (yx c2 y16.1) (fun (y17 : Int) => (Req (inR y17 w.length) (Req (inR (offs y17 0) w.length) (br (w.getD (offs y17 0).toNat 0 == 0) (br (y16.2.1 == 0) (So y02 (fun (y18 : Bool) => (K (vb y18) [.row 6 acts true]))) (K (vb false) [.row 6 acts true])) (K (vb false) [.row 6 acts true])))))) (So (yh q) (fun (y19 : Int) => (So (yn c2 y16.1) (fun (y20 : Int) => (Req (inR y20 w.length) (Req (inR (offs y20 0) w.length) (So (yh q) (fun (y21 : Int) => (So (yu (w.getD (offs y20 0).toNat 0) y21) (fun (y22 : Int) => (So (yx c2 y16.1) (fun (y23 : Int) => (Req (inR y23 w.length) (Req (inR (offs y23 0) w.length) (br (w.getD (offs y23 0).toNat 0 == IntKind.i64.wrap (q + 1)) (br (IntKind.i64.wrap (y19 - y22) == least) (So (yn c2 y16.1) (fun (y24 : Int) => (Req (inR y24 w.length) (Req (inR (offs y24 0) w.length) (So (yl q) (fun (y25 : Int) => (Req (!y25 == 0) (So (y05 (w.getD (offs y24 0).toNat 0) (IntKind.i64.wrap (Int.tdiv y16.2.1 y25))) (fun (y26 : Bool) => (br (!y26) (So y02 (fun (y27 : Bool) => (K (vb y27) [.row 6 acts true]))) (K (vb false) [.row 6 acts true]))))))))))) (K (vb false) [.row 6 acts true])) (K (vb false) [.row 6 acts true]))))))))))))))))))))))) (br (!y12.2.2.2 == openv) (K (vb false) [.row 6 acts true]) (br (!y12.2.1 == decide (least > 0)) (K (vb false) [.row 6 acts true]) (br (!y12.2.2.2) (br (y12.2.2.1 == 0) (So y02 (fun (y28 : Bool) => (K (vb y28) [.row 6 acts true]))) (K (vb false) [.row 6 acts true])) (So (y06 c2 y12.2.2.1) (fun (y29 : Int × Int × Bool) => (br (!y29.2.2) (K (vb false) [.row 6 acts true]) (br (least == 0) (So (yx c2 y29.1) (fun (y30 : Int) => (Req (inR y30 w.length) (Req (inR (offs y30 0) w.length) (br (w.getD (offs y30 0).toNat 0 == 0) (br (y29.2.1 == 0) (So y02 (fun (y31 : Bool) => (K (vb y31) [.row 6 acts true]))) (K (vb false) [.row 6 acts true])) (K (vb false) [.row 6 acts true])))))) (So (yh q) (fun (y32 : Int) => (So (yn c2 y29.1) (fun (y33 : Int) => (Req (inR y33 w.length) (Req (inR (offs y33 0) w.length) (So (yh q) (fun (y34 : Int) => (So (yu (w.getD (offs y33 0).toNat 0) y34) (fun (y35 : Int) => (So (yx c2 y29.1) (fun (y36 : Int) => (Req (inR y36 w.length) (Req (inR (offs y36 0) w.length) (br (w.getD (offs y36 0).toNat 0 == IntKind.i64.wrap (q + 1)) (br (IntKind.i64.wrap (y32 - y35) == least) (So (yn c2 y29.1) (fun (y37 : Int) => (Req (inR y37 w.length) (Req (inR (offs y37 0) w.length) (So (yl q) (fun (y38 : Int) => (Req (!y38 == 0) (So (y05 (w.getD (offs y37 0).toNat 0) (IntKind.i64.wrap (Int.tdiv y29.2.1 y38))) (fun (y39 : Bool) => (br (!y39) (So y02 (fun (y40 : Bool) => (K (vb y40) [.row 6 acts true]))) (K (vb false) [.row 6 acts true]))))))))))) (K (vb false) [.row 6 acts true])) (K (vb false) [.row 6 acts true])))))))))))))))))))))))) (br (!y12.2.2.2 == false) (K (vb false) [.row 6 acts true]) (br (!y12.2.1 == decide (least > 0)) (K (vb false) [.row 6 acts true]) (br (!y12.2.2.2) (br (y12.2.2.1 == 0) (So y02 (fun (y41 : Bool) => (K (vb y41) [.row 6 acts true]))) (K (vb false) [.row 6 acts true])) (So (y06 c2 y12.2.2.1) (fun (y42 : Int × Int × Bool) => (br (!y42.2.2) (K (vb false) [.row 6 acts true]) (br (least == 0) (So (yx c2 y42.1) (fun (y43 : Int) => (Req (inR y43 w.length) (Req (inR (offs y43 0) w.length) (br (w.getD (offs y43 0).toNat 0 == 0) (br (y42.2.1 == 0) (So y02 (fun (y44 : Bool) => (K (vb y44) [.row 6 acts true]))) (K (vb false) [.row 6 acts true])) (K (vb false) [.row 6 acts true])))))) (So (yh q) (fun (y45 : Int) => (So (yn c2 y42.1) (fun (y46 : Int) => (Req (inR y46 w.length) (Req (inR (offs y46 0) w.length) (So (yh q) (fun (y47 : Int) => (So (yu (w.getD (offs y46 0).toNat 0) y47) (fun (y48 : Int) => (So (yx c2 y42.1) (fun (y49 : Int) => (Req (inR y49 w.length) (Req (inR (offs y49 0) w.length) (br (w.getD (offs y49 0).toNat 0 == IntKind.i64.wrap (q + 1)) (br (IntKind.i64.wrap (y45 - y48) == least) (So (yn c2 y42.1) (fun (y50 : Int) => (Req (inR y50 w.length) (Req (inR (offs y50 0) w.length) (So (yl q) (fun (y51 : Int) => (Req (!y51 == 0) (So (y05 (w.getD (offs y50 0).toNat 0) (IntKind.i64.wrap (Int.tdiv y42.2.1 y51))) (fun (y52 : Bool) => (br (!y52) (So y02 (fun (y53 : Bool) => (K (vb y53) [.row 6 acts true]))) (K (vb false) [.row 6 acts true]))))))))))) (K (vb false) [.row 6 acts true])) (K (vb false) [.row 6 acts true]))))))))))))))))))))))))))))))))) := by kernel_rfl
theorem yi3 (y02 : Option Bool) (y0s : yb → (List (List Int)) → Option (ya × (List Int) × (List Int) × Bool)) (yi : Y22) (yx : Y1) (yl yh : Y4) (yn : Y1) (yu : Y14) (y0n : Y5) (y06 : Y28) (y05 : Y37) (c : yb) (q : Int) (acts : List (List Int)) (K : V → Heap → Prop) : (exF (y2u y02 y0s yi yx yl yh yn yu y0n y06 y05) Tryz.f4 [.agg (y1l c), .row 0, vi q] [.row 6 acts true] K) = (
    br (decide ((↑acts.length : Int) > 60)) (So y02 (fun (y0 : Bool) => (K (vb y0) [.row 6 acts true]))) (So (y0s c acts) (fun (y1 : ya × List Int × List Int × Bool) => (br (!y1.2.2.2) (K (vb false) [.row 6 acts true]) (Loop (y2u y02 y0s yi yx yl yh yn yu y0n y06 y05) (⟨195, 1⟩ : Cx) (at_ (bodyOf Tryz.f4) [1, 1, 1, 1, 1, 0, 1, 0, 0]) (mkEnv [(5, .ptr 1 0), (7, .ptr 2 0), (8, .row 3), (11, vi 0), (12, vb false), (13, vi 0)]) [.row 6 acts true, .cells 3 [vi q], .cells 28 (yc y1.1), .row 0 (y1.2.1 : List Int) false] (contK (y2u y02 y0s yi yx yl yh yn yu y0n y06 y05) (⟨195, 1⟩ : Cx) (bodyOf Tryz.f4) [1, 1, 1, 1, 1, 0, 1, 0] (retK (y2u y02 y0s yi yx yl yh yn yu y0n y06 y05) Tryz.f4 1 K))))))) := by kernel_rfl
def y02  : Option Bool :=
  ((y1d (yb.mk 0 0 0 0 0 0 0 0 0 0 0)).bind fun y0 => ((y0x (yb.mk y0.Workers y0.CPUs 2 y0.Stripes y0.Tries y0.Wait y0.Clock y0.Private y0.Cache y0.Bin y0.Batch)).bind fun y1 => ((y3d y1.1).bind fun y2 => (bif (decide (0 ≤ y2 ∧ y2 ≤ y2 ∧ y2 ≤ 1048576)) then (bif (Nat.ble (List.length (List.replicate (Int.toNat y2) (0 : Int))) (1048576 : Nat)) then ((y1x (List.length (List.replicate (Int.toNat y2) (0 : Int))) (List.replicate (Int.toNat y2) (0 : Int)) y1.1 (0 : Int) (0 : Int) (0 : Int) (0 : Int)).bind fun y3 => (bif (y1.2 == 0) then ((y0d y1.1).bind fun y5 => (bif (y3.2.1 == y5) then (bif (y3.2.2.1 == IntKind.i64.wrap (y3.2.1 + 16)) then (bif (y3.2.2.2.1 == IntKind.i64.wrap (y3.2.1 + 32)) then some (y3.2.2.2.2 == 1) else some false) else some false) else some false)) else some false)) else none) else none))))
def y0s (c : yb) (acts : List (List Int)) : Option (ya × (List Int) × (List Int) × Bool) :=
  ((y2m c).bind fun y0 => (bif (Nat.ble y0.2.2.length 1048576) then ((y2j y0.2.2.length y0.2.2 y0.1 acts).bind fun y1 => some (y0.1, y1.1, y1.2, ((↑y1.1.length : Int) == (↑y0.2.2.length : Int)))) else none))
def y3u (q : Int) (c2 : ya) (w : List Int) (least : Int) (openv : Bool) (p : Int) : Option ((Int × Bool × Int) ⊕ Bool) :=
  ((yi c2).bind fun y0 => (bif (decide (p < y0.Pages)) then ((yx c2 p).bind fun y1 => (bif (inR y1 w.length) then (bif (inR (offs y1 0) w.length) then (bif openv then ((yl q).bind fun y2 => (bif (decide (y2 > 0)) then (bif (w.getD (offs y1 0).toNat 0 == IntKind.i64.wrap (q + 1)) then ((yh q).bind fun y3 => ((yn c2 p).bind fun y4 => (bif (inR y4 w.length) then (bif (inR (offs y4 0) w.length) then ((yh q).bind fun y5 => ((yu (w.getD (offs y4 0).toNat 0) y5).bind fun y6 => (bif (decide (IntKind.i64.wrap (y3 - y6) > 0)) then (bif (least == 0) then some (.inl ((IntKind.i64.wrap (y3 - y6)), true, (IntKind.i64.wrap (p + 1)))) else (bif (decide (IntKind.i64.wrap (y3 - y6) < least)) then some (.inl ((IntKind.i64.wrap (y3 - y6)), true, (IntKind.i64.wrap (p + 1)))) else some (.inl (least, true, (IntKind.i64.wrap (p + 1)))))) else some (.inl (least, true, (IntKind.i64.wrap (p + 1))))))) else none) else none))) else some (.inl (least, true, (IntKind.i64.wrap (p + 1))))) else some (.inl (least, true, (IntKind.i64.wrap (p + 1)))))) else ((yl q).bind fun y7 => (bif (decide (y7 > 0)) then (bif (w.getD (offs y1 0).toNat 0 == IntKind.i64.wrap (q + 1)) then ((yh q).bind fun y8 => ((yn c2 p).bind fun y9 => (bif (inR y9 w.length) then (bif (inR (offs y9 0) w.length) then ((yh q).bind fun y10 => ((yu (w.getD (offs y9 0).toNat 0) y10).bind fun y11 => (bif (decide (IntKind.i64.wrap (y8 - y11) > 0)) then (bif (least == 0) then some (.inl ((IntKind.i64.wrap (y8 - y11)), (w.getD (offs y1 0).toNat 0 == 0), (IntKind.i64.wrap (p + 1)))) else (bif (decide (IntKind.i64.wrap (y8 - y11) < least)) then some (.inl ((IntKind.i64.wrap (y8 - y11)), (w.getD (offs y1 0).toNat 0 == 0), (IntKind.i64.wrap (p + 1)))) else some (.inl (least, (w.getD (offs y1 0).toNat 0 == 0), (IntKind.i64.wrap (p + 1)))))) else some (.inl (least, (w.getD (offs y1 0).toNat 0 == 0), (IntKind.i64.wrap (p + 1))))))) else none) else none))) else some (.inl (least, (w.getD (offs y1 0).toNat 0 == 0), (IntKind.i64.wrap (p + 1))))) else some (.inl (least, (w.getD (offs y1 0).toNat 0 == 0), (IntKind.i64.wrap (p + 1))))))) else none) else none)) else (bif (Nat.ble w.length 1048576) then ((y0n w.length w c2 q false 0 false).bind fun y12 => ((yl q).bind fun y14 => (bif (decide (y14 > 0)) then (bif (decide (least > 0)) then (bif (!y12.2.2.2 == true) then some (.inr false) else (bif (!y12.2.1 == decide (least > 0)) then some (.inr false) else (bif (!y12.2.2.2) then (bif (y12.2.2.1 == 0) then (y02.bind fun y15 => some (.inr y15)) else some (.inr false)) else ((y06 c2 y12.2.2.1).bind fun y16 => (bif (!y16.2.2) then some (.inr false) else (bif (least == 0) then ((yx c2 y16.1).bind fun y17 => (bif (inR y17 w.length) then (bif (inR (offs y17 0) w.length) then (bif (w.getD (offs y17 0).toNat 0 == 0) then (bif (y16.2.1 == 0) then (y02.bind fun y18 => some (.inr y18)) else some (.inr false)) else some (.inr false)) else none) else none)) else ((yh q).bind fun y19 => ((yn c2 y16.1).bind fun y20 => (bif (inR y20 w.length) then (bif (inR (offs y20 0) w.length) then ((yh q).bind fun y21 => ((yu (w.getD (offs y20 0).toNat 0) y21).bind fun y22 => ((yx c2 y16.1).bind fun y23 => (bif (inR y23 w.length) then (bif (inR (offs y23 0) w.length) then (bif (w.getD (offs y23 0).toNat 0 == IntKind.i64.wrap (q + 1)) then (bif (IntKind.i64.wrap (y19 - y22) == least) then ((yn c2 y16.1).bind fun y24 => (bif (inR y24 w.length) then (bif (inR (offs y24 0) w.length) then ((yl q).bind fun y25 => (bif (!y25 == 0) then ((y05 (w.getD (offs y24 0).toNat 0) (IntKind.i64.wrap (Int.tdiv y16.2.1 y25))).bind fun y26 => (bif (!y26) then (y02.bind fun y27 => some (.inr y27)) else some (.inr false))) else none)) else none) else none)) else some (.inr false)) else some (.inr false)) else none) else none)))) else none) else none))))))))) else (bif (!y12.2.2.2 == openv) then some (.inr false) else (bif (!y12.2.1 == decide (least > 0)) then some (.inr false) else (bif (!y12.2.2.2) then (bif (y12.2.2.1 == 0) then (y02.bind fun y28 => some (.inr y28)) else some (.inr false)) else ((y06 c2 y12.2.2.1).bind fun y29 => (bif (!y29.2.2) then some (.inr false) else (bif (least == 0) then ((yx c2 y29.1).bind fun y30 => (bif (inR y30 w.length) then (bif (inR (offs y30 0) w.length) then (bif (w.getD (offs y30 0).toNat 0 == 0) then (bif (y29.2.1 == 0) then (y02.bind fun y31 => some (.inr y31)) else some (.inr false)) else some (.inr false)) else none) else none)) else ((yh q).bind fun y32 => ((yn c2 y29.1).bind fun y33 => (bif (inR y33 w.length) then (bif (inR (offs y33 0) w.length) then ((yh q).bind fun y34 => ((yu (w.getD (offs y33 0).toNat 0) y34).bind fun y35 => ((yx c2 y29.1).bind fun y36 => (bif (inR y36 w.length) then (bif (inR (offs y36 0) w.length) then (bif (w.getD (offs y36 0).toNat 0 == IntKind.i64.wrap (q + 1)) then (bif (IntKind.i64.wrap (y32 - y35) == least) then ((yn c2 y29.1).bind fun y37 => (bif (inR y37 w.length) then (bif (inR (offs y37 0) w.length) then ((yl q).bind fun y38 => (bif (!y38 == 0) then ((y05 (w.getD (offs y37 0).toNat 0) (IntKind.i64.wrap (Int.tdiv y29.2.1 y38))).bind fun y39 => (bif (!y39) then (y02.bind fun y40 => some (.inr y40)) else some (.inr false))) else none)) else none) else none)) else some (.inr false)) else some (.inr false)) else none) else none)))) else none) else none)))))))))) else (bif (!y12.2.2.2 == false) then some (.inr false) else (bif (!y12.2.1 == decide (least > 0)) then some (.inr false) else (bif (!y12.2.2.2) then (bif (y12.2.2.1 == 0) then (y02.bind fun y41 => some (.inr y41)) else some (.inr false)) else ((y06 c2 y12.2.2.1).bind fun y42 => (bif (!y42.2.2) then some (.inr false) else (bif (least == 0) then ((yx c2 y42.1).bind fun y43 => (bif (inR y43 w.length) then (bif (inR (offs y43 0) w.length) then (bif (w.getD (offs y43 0).toNat 0 == 0) then (bif (y42.2.1 == 0) then (y02.bind fun y44 => some (.inr y44)) else some (.inr false)) else some (.inr false)) else none) else none)) else ((yh q).bind fun y45 => ((yn c2 y42.1).bind fun y46 => (bif (inR y46 w.length) then (bif (inR (offs y46 0) w.length) then ((yh q).bind fun y47 => ((yu (w.getD (offs y46 0).toNat 0) y47).bind fun y48 => ((yx c2 y42.1).bind fun y49 => (bif (inR y49 w.length) then (bif (inR (offs y49 0) w.length) then (bif (w.getD (offs y49 0).toNat 0 == IntKind.i64.wrap (q + 1)) then (bif (IntKind.i64.wrap (y45 - y48) == least) then ((yn c2 y42.1).bind fun y50 => (bif (inR y50 w.length) then (bif (inR (offs y50 0) w.length) then ((yl q).bind fun y51 => (bif (!y51 == 0) then ((y05 (w.getD (offs y50 0).toNat 0) (IntKind.i64.wrap (Int.tdiv y42.2.1 y51))).bind fun y52 => (bif (!y52) then (y02.bind fun y53 => some (.inr y53)) else some (.inr false))) else none)) else none) else none)) else some (.inr false)) else some (.inr false)) else none) else none)))) else none) else none)))))))))))) else none)))
def yep (q : Int) (c2 : ya) (w : List Int) (s : Int × Bool × Int) : Option Bool :=
  loopO (fun s => y3u q c2 w s.1 s.2.1 s.2.2) s
def y4p (c : yb) (q : Int) (acts : List (List Int)) : Option Bool :=
  (bif (decide ((↑acts.length : Int) > 60)) then (y02.bind fun y0 => some y0) else ((y0s c acts).bind fun y1 => (bif (!y1.2.2.2) then some false else (yep q y1.1 y1.2.1 (0, false, 0)))))
attribute [local irreducible] Loop ex exF contK roundK retK at_ bodyOf mkEnv
theorem yg8 : SpecOK Tryz.prog elTT 6 (ybi y02) := by
  refine spec_of_exF (cfg := (ydy y1d y0x y3d y1x y0d)) (yg rfl rfl rfl) (yd yeg (yd ydi (yd yj6 (yd (okdo_law11_lives_1 ygd) (yd yf3 ym))))) (fn := Tryz.f6) (by kernel_rfl) (by kernel_rfl) (by kernel_rfl) ?_
  intro args H K h
  change y92 y02 args H K at h
  unfold y92 at h
  repeat first | (obtain ⟨_, h⟩ := h) | replace h := Des.el h
  subst_vars
  refine Eq.mpr (yfr y1d y0x y3d y1x y0d  K) ?_
  unfold y02 at h
  revert h
  exact bind_So fun y0 => bind_So fun y1 => bind_So fun y2 => req_So (req_So (bind_So fun y3 => all_So fun y4 => br_So (bind_So fun y5 => br_So (br_So (br_So (fun h => h) (fun h => h)) (fun h => h)) (fun h => h)) (fun h => h)))
theorem yjd : SpecOK Tryz.prog elTT 16 (yas y0s) := by
  refine spec_of_exF (cfg := (yca y2m y2j)) (yg rfl rfl rfl) (yd ygv (yd (okdo_law11_after_1 yg4) ym)) (fn := Tryz.f16) (by kernel_rfl) (by kernel_rfl) (by kernel_rfl) ?_
  intro args H K h
  change y7y y0s args H K at h
  unfold y7y at h
  repeat first | (obtain ⟨_, h⟩ := h) | replace h := Des.el h
  subst_vars
  refine Eq.mpr (yjc y2m y2j _ _ K) ?_
  unfold y0s at h
  revert h
  exact bind_So fun y0 => req_So (bind_So fun y1 => all_So fun y2 => fun h => h)
theorem lpok_law11_PagesFullest_L1 (c : yb) (q : Int) (acts : List (List Int)) (least : Int) (openv : Bool) (p : Int) (c2 : ya) (w : List Int) (K : V → Heap → Prop) : So (yep q c2 w (least, openv, p)) (fun (x : Bool) => K (vb x) [.row 6 acts true]) → Loop (y2u y02 y0s yi yx yl yh yn yu y0n y06 y05) (⟨195, 1⟩ : Cx) (at_ (bodyOf Tryz.f4) [1, 1, 1, 1, 1, 0, 1, 0, 0]) (mkEnv [(5, .ptr 1 0), (7, .ptr 2 0), (8, .row 3), (11, vi least), (12, vb openv), (13, vi p)]) [.row 6 acts true, .cells 3 [vi q], .cells 28 (yc c2), .row 0 w false] (contK (y2u y02 y0s yi yx yl yh yn yu y0n y06 y05) (⟨195, 1⟩ : Cx) (bodyOf Tryz.f4) [1, 1, 1, 1, 1, 0, 1, 0] (retK (y2u y02 y0s yi yx yl yh yn yu y0n y06 y05) Tryz.f4 1 K)) := by
  refine loopK_So (fun (s_ : Int × Bool × Int) => (mkEnv [(5, .ptr 1 0), (7, .ptr 2 0), (8, .row 3), (11, vi s_.1), (12, vb s_.2.1), (13, vi s_.2.2)])) (fun (s_ : Int × Bool × Int) => [.row 6 acts true, .cells 3 [vi q], .cells 28 (yc c2), .row 0 w false]) (fun (x : Bool) => K (vb x) [.row 6 acts true]) ?_ (least, openv, p)
  intro s_ J1 h
  clear least
  clear openv
  clear p
  obtain ⟨least, openv, p⟩ := s_
  refine Eq.mpr (yfs y02 y0s yi yx yl yh yn yu y0n y06 y05 c q acts least openv p c2 w K J1) ?_
  have h : So (y3u q c2 w least openv p) _ := h
  unfold y3u at h
  revert h
  exact bind_So fun y0 => br_So (bind_So fun y1 => req_So (req_So (br_So (bind_So fun y2 => br_So (br_So (bind_So fun y3 => bind_So fun y4 => req_So (req_So (bind_So fun y5 => bind_So fun y6 => br_So (br_So (fun h => h) (br_So (fun h => h) (fun h => h))) (fun h => h)))) (fun h => h)) (fun h => h)) (bind_So fun y7 => br_So (br_So (bind_So fun y8 => bind_So fun y9 => req_So (req_So (bind_So fun y10 => bind_So fun y11 => br_So (br_So (fun h => h) (br_So (fun h => h) (fun h => h))) (fun h => h)))) (fun h => h)) (fun h => h))))) (req_So (bind_So fun y12 => all_So fun y13 => bind_So fun y14 => br_So (br_So (br_So (fun h => h) (br_So (fun h => h) (br_So (br_So (bind_So fun y15 => fun h => h) (fun h => h)) (bind_So fun y16 => br_So (fun h => h) (br_So (bind_So fun y17 => req_So (req_So (br_So (br_So (bind_So fun y18 => fun h => h) (fun h => h)) (fun h => h)))) (bind_So fun y19 => bind_So fun y20 => req_So (req_So (bind_So fun y21 => bind_So fun y22 => bind_So fun y23 => req_So (req_So (br_So (br_So (bind_So fun y24 => req_So (req_So (bind_So fun y25 => req_So (bind_So fun y26 => br_So (bind_So fun y27 => fun h => h) (fun h => h))))) (fun h => h)) (fun h => h))))))))))) (br_So (fun h => h) (br_So (fun h => h) (br_So (br_So (bind_So fun y28 => fun h => h) (fun h => h)) (bind_So fun y29 => br_So (fun h => h) (br_So (bind_So fun y30 => req_So (req_So (br_So (br_So (bind_So fun y31 => fun h => h) (fun h => h)) (fun h => h)))) (bind_So fun y32 => bind_So fun y33 => req_So (req_So (bind_So fun y34 => bind_So fun y35 => bind_So fun y36 => req_So (req_So (br_So (br_So (bind_So fun y37 => req_So (req_So (bind_So fun y38 => req_So (bind_So fun y39 => br_So (bind_So fun y40 => fun h => h) (fun h => h))))) (fun h => h)) (fun h => h)))))))))))) (br_So (fun h => h) (br_So (fun h => h) (br_So (br_So (bind_So fun y41 => fun h => h) (fun h => h)) (bind_So fun y42 => br_So (fun h => h) (br_So (bind_So fun y43 => req_So (req_So (br_So (br_So (bind_So fun y44 => fun h => h) (fun h => h)) (fun h => h)))) (bind_So fun y45 => bind_So fun y46 => req_So (req_So (bind_So fun y47 => bind_So fun y48 => bind_So fun y49 => req_So (req_So (br_So (br_So (bind_So fun y50 => req_So (req_So (bind_So fun y51 => req_So (bind_So fun y52 => br_So (bind_So fun y53 => fun h => h) (fun h => h))))) (fun h => h)) (fun h => h)))))))))))))
theorem yjz : SpecOK Tryz.prog elTT 4 (yig y4p) := by
  refine spec_of_exF (cfg := (y2u y02 y0s yi yx yl yh yn yu y0n y06 y05)) (yg rfl rfl rfl) (yd yg8 (yd yjd (yd y3s (yd ya2 (yd y4u (yd y4t (yd y5h (yd yb3 (yd (okdo_law11_PagesFullest_1 yfd) (yd ydj (yd yeh ym))))))))))) (fn := Tryz.f4) (by kernel_rfl) (by kernel_rfl) (by kernel_rfl) ?_
  intro args H K h
  change y7h y4p args H K at h
  unfold y7h at h
  repeat first | (obtain ⟨_, h⟩ := h) | replace h := Des.el h
  subst_vars
  refine Eq.mpr (yi3 y02 y0s yi yx yl yh yn yu y0n y06 y05 _ _ _ K) ?_
  unfold y4p at h
  revert h
  exact br_So (bind_So fun y0 => fun h => h) (bind_So fun y1 => br_So (fun h => h) (lpok_law11_PagesFullest_L1 (by first | assumption | exact default) _ _ _ _ _ _ _ K))
end Go.Rx
end
