/- What the row's text of this claim stands on, part 5: the symbolic executor, contracts of the program's functions, plain facts. No condition. -/
import Derived.Test.YtoejhbeppjagnaaGreatK11pD
noncomputable section
namespace Go.Rx
open Go.Proofs
set_option maxRecDepth 100000
set_option maxHeartbeats 4000000
def y9j (m_ : Y9) (args : List V) (H : Heap) (K : V → Heap → Prop) : Prop :=
  aC args fun a0 r => aC r fun a1 r => aC r fun a2 r => aN r <| aAgg a0 fun c0 => y0f c0 fun l2 => aRow 0 a1 <| aInt a2 fun p => aC H fun b0 r => aN r <| bRow 0 true b0 fun (w : List Int) => So (m_ l2 p w) fun x => K (vi x) [.row 0 w true]
def ybt (m_ : Y9) : Spec := ⟨y9j m_, (true : Bool)⟩
abbrev Y17 := T_assartref02_Layout → Int → Int → Bool → (List Int) → Option Bool
def y8e (m_ : Y17) (args : List V) (H : Heap) (K : V → Heap → Prop) : Prop :=
  aC args fun a0 r => aC r fun a1 r => aC r fun a2 r => aC r fun a3 r => aC r fun a4 r => aN r <| aAgg a0 fun c0 => y0f c0 fun l2 => aRow 0 a1 <| aInt a2 fun p => aInt a3 fun n => aBool a4 fun mapped => aC H fun b0 r => aN r <| bRow 0 true b0 fun (w : List Int) => So (m_ l2 p n mapped w) fun x => K (vb x) [.row 0 w true]
def yc0 (m_ : Y17) : Spec := ⟨y8e m_, (true : Bool)⟩
abbrev Y51 := T_assartref02_Layout → Int → Int → (List Int) → Option Int
def ycn (m_ : Y51) (args : List V) (H : Heap) (K : V → Heap → Prop) : Prop :=
  aC args fun a0 r => aC r fun a1 r => aC r fun a2 r => aC r fun a3 r => aN r <| aAgg a0 fun c0 => y0f c0 fun l2 => aRow 0 a1 <| aInt a2 fun n => aInt a3 fun step => aC H fun b0 r => aN r <| bRow 0 true b0 fun (w : List Int) => So (m_ l2 n step w) fun x => K (vi x) [.row 0 w true]
def ydh (m_ : Y51) : Spec := ⟨ycn m_, (true : Bool)⟩
abbrev Y18 := T_assartref02_Layout → Int → Int → Int → (List Int) → Option (List Int)
def yba (m_ : Y18) (args : List V) (H : Heap) (K : V → Heap → Prop) : Prop :=
  aC args fun a0 r => aC r fun a1 r => aC r fun a2 r => aC r fun a3 r => aC r fun a4 r => aN r <| aAgg a0 fun c0 => y0f c0 fun l2 => aRow 0 a1 <| aInt a2 fun p => aInt a3 fun kindv => aInt a4 fun count => aC H fun b0 r => aN r <| bRow 0 false b0 fun (w : List Int) => So (m_ l2 p kindv count w) fun x => K (.tup []) [.row 0 x false]
def y8b (m_ : Y18) : Spec := ⟨yba m_, (⟨true, fun i => Nat.beq i 0⟩ : RO)⟩
def y84 (m_ : Y4) (args : List V) (H : Heap) (K : V → Heap → Prop) : Prop :=
  aC args fun a0 r => aC r fun a1 r => aC r fun a2 r => aC r fun a3 r => aC r fun a4 r => aN r <| aAgg a0 fun c0 => y0f c0 fun l2 => aRow 0 a1 <| aInt a2 fun p => aInt a3 fun n => aInt a4 fun kindv => aC H fun b0 r => aN r <| bRow 0 false b0 fun (w : List Int) => So (m_ l2 p n kindv w) fun x => K (vb x.1) [.row 0 x.2 false]
def yey (m_ : Y4) : Spec := ⟨y84 m_, (⟨true, fun i => Nat.beq i 0⟩ : RO)⟩
abbrev Y44 := T_assartref02_Layout → Int → (List Int) → Option (Int × (List Int))
def ycb (m_ : Y44) (args : List V) (H : Heap) (K : V → Heap → Prop) : Prop :=
  aC args fun a0 r => aC r fun a1 r => aC r fun a2 r => aN r <| aAgg a0 fun c0 => y0f c0 fun l2 => aRow 0 a1 <| aInt a2 fun p => aC H fun b0 r => aN r <| bRow 0 false b0 fun (w : List Int) => So (m_ l2 p w) fun x => K (vi x.1) [.row 0 x.2 false]
def yi9 (m_ : Y44) : Spec := ⟨ycb m_, (⟨true, fun i => Nat.beq i 0⟩ : RO)⟩
def yfs (y06 : Y0) : Cfg := { cfgB with
  sigs := (sigC 88 (y6t y06) sigN) }
def y4q (y0e : Y9) (yq : Y3) (y04 : Y14) : Cfg := { cfgB with
  sigs := (sigC 122 (ybt y0e) (sigC 146 (y75 yq) (sigC 145 (y71 y04) sigN))),
  keep := fun r => match r with | 4 => some [(1, some 0), (2, none), (3, none), (4, none), (5, none), (11, none)] | _ => none,
  plan := fun r => match r with | 6 => some (List.range 16, 0) | _ => none }
def y2b (yu : Y17) : Cfg := { cfgB with
  sigs := (sigC 111 (yc0 yu) sigN),
  keep := fun r => match r with | 4 => some [(1, some 0), (2, none), (3, none), (4, none), (9, none)] | 9 => some [(1, some 0), (2, none), (3, none), (4, none), (10, none)] | _ => none }
def yg7 (y06 y0a ym : Y0) : Cfg := { cfgB with
  sigs := (sigC 88 (y6t y06) (sigC 78 (y74 y0a) (sigC 81 (y5w ym) sigN))) }
def y3h (yu : Y17) (y1b : Y31) (y03 : Y18) : Cfg := { cfgB with
  sigs := (sigC 111 (yc0 yu) (sigC 112 (yf9 y1b) (sigC 113 (y8b y03) sigN))),
  keep := fun r => match r with | 5 => some [(1, some 0), (2, none), (3, none), (4, none), (5, none), (11, none)] | _ => none }
def y51 (y0e : Y9) (y03 : Y18) : Cfg := { cfgB with
  sigs := (sigC 122 (ybt y0e) (sigC 113 (y8b y03) sigN)),
  keep := fun r => match r with | 6 => some [(1, some 0), (2, none), (3, none), (7, none), (8, none)] | _ => none }
theorem yjx (y06 : Y0) (l2 : T_assartref02_Layout) (p : Int) (w : List Int) (K : V → Heap → Prop) : (exF (yfs y06) Tryz.f122 [.agg (y0g l2), .row 0, vi p] [.row 0 w true] K) = (
    br (decide (p < 0)) (K (vi (-1)) [.row 0 w true]) (br (decide (p ≥ l2.C.Pages)) (K (vi (-1)) [.row 0 w true]) (So (y06 l2 p) (fun (y0 : Int) => (Req (inR y0 w.length) (Req (inR (offs y0 0) w.length) (K (vi (w.getD (offs y0 0).toNat 0)) [.row 0 w true]))))))) := by kernel_rfl
theorem ykb (y0e : Y9) (yq : Y3) (y04 : Y14) (l2 : T_assartref02_Layout) (p n : Int) (mapped : Bool) (w : List Int) (iv : Int) (K : V → Heap → Prop) (J1 : Env → Heap → Prop) : (ex (y4q y0e yq y04) (⟨58, 1⟩ : Cx) (at_ (bodyOf Tryz.f111) [1, 1, 0, 1, 0, 0]) (mkEnv [(1, .row 0), (2, vi p), (3, vi n), (4, vb mapped), (5, .ptr 1 0), (11, vi iv)]) [.row 0 w true, .cells 30 (ye (Go.Rx.T_assartref02_Layout.C l2))] (roundK (y4q y0e yq y04) (⟨58, 1⟩ : Cx) (at_ (bodyOf Tryz.f111) [1, 1, 0, 1, 0, 0]) (contK (y4q y0e yq y04) (⟨58, 1⟩ : Cx) (bodyOf Tryz.f111) [1, 1, 0, 1, 0] (retK (y4q y0e yq y04) Tryz.f111 1 K)) J1)) = (
    br (decide (iv < IntKind.i64.wrap (p + n))) (So (y0e l2 iv w) (fun (y0 : Int) => (br (y0 != 0) (K (vb false) [.row 0 w true]) (br mapped (So (yq iv) (fun (y1 : Int) => (So (y04 l2 y1 w) (fun (y2 : Bool) => (br (!y2) (K (vb false) [.row 0 w true]) (J1 (mkEnv [(1, .row 0), (2, vi p), (3, vi n), (4, vb mapped), (5, .ptr 1 0), (11, vi (IntKind.i64.wrap (iv + 1)))]) [.row 0 w true, .cells 30 (ye l2.C)])))))) (J1 (mkEnv [(1, .row 0), (2, vi p), (3, vi n), (4, vb mapped), (5, .ptr 1 0), (11, vi (IntKind.i64.wrap (iv + 1)))]) [.row 0 w true, .cells 30 (ye l2.C)]))))) (K (vb true) [.row 0 w true])) := by kernel_rfl
theorem ype (y0e : Y9) (yq : Y3) (y04 : Y14) (l2 : T_assartref02_Layout) (p n : Int) (mapped : Bool) (w : List Int) (K : V → Heap → Prop) : (exF (y4q y0e yq y04) Tryz.f111 [.agg (y0g l2), .row 0, vi p, vi n, vb mapped] [.row 0 w true] K) = (
    br (decide (p < 0)) (K (vb false) [.row 0 w true]) (br (decide (p ≥ l2.C.Pages)) (K (vb false) [.row 0 w true]) (br (decide (n < 1)) (K (vb false) [.row 0 w true]) (br (decide (n > IntKind.i64.wrap (l2.C.Pages - p))) (K (vb false) [.row 0 w true]) (Loop (y4q y0e yq y04) (⟨58, 1⟩ : Cx) (at_ (bodyOf Tryz.f111) [1, 1, 0, 1, 0, 0]) (mkEnv [(1, .row 0), (2, vi p), (3, vi n), (4, vb mapped), (5, .ptr 1 0), (11, vi p)]) [.row 0 w true, .cells 30 (ye l2.C)] (contK (y4q y0e yq y04) (⟨58, 1⟩ : Cx) (bodyOf Tryz.f111) [1, 1, 0, 1, 0] (retK (y4q y0e yq y04) Tryz.f111 1 K))))))) := by kernel_rfl
theorem yqn (yu : Y17) (l2 : T_assartref02_Layout) (n step : Int) (w : List Int) (p : Int) (K : V → Heap → Prop) (J1 : Env → Heap → Prop) : (ex (y2b yu) (⟨55, 1⟩ : Cx) (at_ (bodyOf Tryz.f75) [1, 1, 1, 0, 1, 0, 0]) (mkEnv [(1, .row 0), (2, vi n), (3, vi step), (4, .ptr 1 0), (10, vi p)]) [.row 0 w true, .cells 30 (ye (Go.Rx.T_assartref02_Layout.C l2))] (roundK (y2b yu) (⟨55, 1⟩ : Cx) (at_ (bodyOf Tryz.f75) [1, 1, 1, 0, 1, 0, 0]) (contK (y2b yu) (⟨55, 1⟩ : Cx) (bodyOf Tryz.f75) [1, 1, 1, 0, 1, 0] (retK (y2b yu) Tryz.f75 1 K)) J1)) = (
    br (decide (p < l2.C.Pages)) (Req (!step == 0) (br (Int.tmod p step == 0) (So (yu l2 p n false w) (fun (y0 : Bool) => (br y0 (K (vi p) [.row 0 w true]) (J1 (mkEnv [(1, .row 0), (2, vi n), (3, vi step), (4, .ptr 1 0), (10, vi (IntKind.i64.wrap (p + 1)))]) [.row 0 w true, .cells 30 (ye l2.C)])))) (J1 (mkEnv [(1, .row 0), (2, vi n), (3, vi step), (4, .ptr 1 0), (10, vi (IntKind.i64.wrap (p + 1)))]) [.row 0 w true, .cells 30 (ye l2.C)]))) (K (vi (-1)) [.row 0 w true])) := by kernel_rfl
theorem ymw (yu : Y17) (l2 : T_assartref02_Layout) (n step : Int) (w : List Int) (p : Int) (K : V → Heap → Prop) (J1 : Env → Heap → Prop) : (ex (y2b yu) (⟨55, 1⟩ : Cx) (at_ (bodyOf Tryz.f75) [1, 1, 0, 1, 0, 0]) (mkEnv [(1, .row 0), (2, vi n), (3, vi step), (4, .ptr 1 0), (9, vi p)]) [.row 0 w true, .cells 30 (ye (Go.Rx.T_assartref02_Layout.C l2))] (roundK (y2b yu) (⟨55, 1⟩ : Cx) (at_ (bodyOf Tryz.f75) [1, 1, 0, 1, 0, 0]) (contK (y2b yu) (⟨55, 1⟩ : Cx) (bodyOf Tryz.f75) [1, 1, 0, 1, 0] (retK (y2b yu) Tryz.f75 1 K)) J1)) = (
    br (decide (p < l2.C.Pages)) (Req (!step == 0) (br (Int.tmod p step == 0) (So (yu l2 p n true w) (fun (y0 : Bool) => (br y0 (K (vi p) [.row 0 w true]) (J1 (mkEnv [(1, .row 0), (2, vi n), (3, vi step), (4, .ptr 1 0), (9, vi (IntKind.i64.wrap (p + 1)))]) [.row 0 w true, .cells 30 (ye l2.C)])))) (J1 (mkEnv [(1, .row 0), (2, vi n), (3, vi step), (4, .ptr 1 0), (9, vi (IntKind.i64.wrap (p + 1)))]) [.row 0 w true, .cells 30 (ye l2.C)]))) (Loop (y2b yu) (⟨55, 1⟩ : Cx) (at_ (bodyOf Tryz.f75) [1, 1, 1, 0, 1, 0, 0]) (mkEnv [(1, .row 0), (2, vi n), (3, vi step), (4, .ptr 1 0), (10, vi 0)]) [.row 0 w true, .cells 30 (ye l2.C)] (contK (y2b yu) (⟨55, 1⟩ : Cx) (bodyOf Tryz.f75) [1, 1, 1, 0, 1, 0] (retK (y2b yu) Tryz.f75 1 K)))) := by kernel_rfl
theorem ypt (yu : Y17) (l2 : T_assartref02_Layout) (n step : Int) (w : List Int) (K : V → Heap → Prop) : (exF (y2b yu) Tryz.f75 [.agg (y0g l2), .row 0, vi n, vi step] [.row 0 w true] K) = (
    br (decide (n < 1)) (K (vi (-1)) [.row 0 w true]) (br (decide (step < 1)) (K (vi (-1)) [.row 0 w true]) (Loop (y2b yu) (⟨55, 1⟩ : Cx) (at_ (bodyOf Tryz.f75) [1, 1, 0, 1, 0, 0]) (mkEnv [(1, .row 0), (2, vi n), (3, vi step), (4, .ptr 1 0), (9, vi 0)]) [.row 0 w true, .cells 30 (ye l2.C)] (contK (y2b yu) (⟨55, 1⟩ : Cx) (bodyOf Tryz.f75) [1, 1, 0, 1, 0] (retK (y2b yu) Tryz.f75 1 K))))) := by kernel_rfl
theorem yn5 (y06 y0a ym : Y0) (l2 : T_assartref02_Layout) (p kindv count : Int) (w : List Int) (K : V → Heap → Prop) : (exF (yg7 y06 y0a ym) Tryz.f113 [.agg (y0g l2), .row 0, vi p, vi kindv, vi count] [.row 0 w false] K) = (
    So (y06 l2 p) (fun (y0 : Int) => (Req (inR y0 w.length) (Req (inR (offs y0 0) w.length) (So (y0a l2 p) (fun (y1 : Int) => (Req (inR y1 (List.length (List.set w (offs y0 0).toNat kindv))) (Req (inR (offs y1 0) (List.length (List.set w (offs y0 0).toNat kindv))) (So (ym l2 p) (fun (y2 : Int) => (Req (inR y2 (List.length (List.set (List.set w (offs y0 0).toNat kindv) (offs y1 0).toNat count))) (Req (inR (offs y2 0) (List.length (List.set (List.set w (offs y0 0).toNat kindv) (offs y1 0).toNat count))) (K (.tup []) [.row 0 (List.set (List.set (List.set w (offs y0 0).toNat kindv) (offs y1 0).toNat count) (offs y2 0).toNat 0 : List Int) false]))))))))))))) := by kernel_rfl
theorem ypl (yu : Y17) (y1b : Y31) (y03 : Y18) (l2 : T_assartref02_Layout) (p n kindv : Int) (w : List Int) (iv : Int) (w2 : List Int) (K : V → Heap → Prop) (J1 : Env → Heap → Prop) : (ex (y3h yu y1b y03) (⟨64, 1⟩ : Cx) (at_ (bodyOf Tryz.f76) [1, 1, 1, 0, 1, 0, 0]) (mkEnv [(1, .row 0), (2, vi p), (3, vi n), (4, vi kindv), (5, .ptr 1 0), (11, vi iv)]) [.row 0 w2 false, .cells 30 (ye (Go.Rx.T_assartref02_Layout.C l2))] (roundK (y3h yu y1b y03) (⟨64, 1⟩ : Cx) (at_ (bodyOf Tryz.f76) [1, 1, 1, 0, 1, 0, 0]) (contK (y3h yu y1b y03) (⟨64, 1⟩ : Cx) (bodyOf Tryz.f76) [1, 1, 1, 0, 1, 0] (retK (y3h yu y1b y03) Tryz.f76 1 K)) J1)) = (
    br (decide (iv < IntKind.i64.wrap (p + n))) (So (y03 l2 iv 7 0 w2) (fun (y0 : List Int) => (J1 (mkEnv [(1, .row 0), (2, vi p), (3, vi n), (4, vi kindv), (5, .ptr 1 0), (11, vi (IntKind.i64.wrap (iv + 1)))]) [.row 0 y0 false, .cells 30 (ye l2.C)]))) (br (kindv == 6) (So (y03 l2 p kindv n w2) (fun (y1 : List Int) => (K (vb true) [.row 0 y1 false]))) (So (y03 l2 p kindv 0 w2) (fun (y2 : List Int) => (K (vb true) [.row 0 y2 false]))))) := by kernel_rfl
theorem ynk (yu : Y17) (y1b : Y31) (y03 : Y18) (l2 : T_assartref02_Layout) (p n kindv : Int) (w : List Int) (K : V → Heap → Prop) : (exF (y3h yu y1b y03) Tryz.f76 [.agg (y0g l2), .row 0, vi p, vi n, vi kindv] [.row 0 w false] K) = (
    So (yu l2 p n false w) (fun (y0 : Bool) => (br (!y0) (K (vb false) [.row 0 w false]) (br (decide (kindv < 1)) (K (vb false) [.row 0 w false]) (br (decide (kindv > 6)) (K (vb false) [.row 0 w false]) (br (decide (kindv < 6)) (br (n != 1) (K (vb false) [.row 0 w false]) (So (y1b l2 p n w) (fun (y1 : Int × List Int) => (Loop (y3h yu y1b y03) (⟨64, 1⟩ : Cx) (at_ (bodyOf Tryz.f76) [1, 1, 1, 0, 1, 0, 0]) (mkEnv [(1, .row 0), (2, vi p), (3, vi n), (4, vi kindv), (5, .ptr 1 0), (11, vi p)]) [.row 0 (y1.2 : List Int) false, .cells 30 (ye l2.C)] (contK (y3h yu y1b y03) (⟨64, 1⟩ : Cx) (bodyOf Tryz.f76) [1, 1, 1, 0, 1, 0] (retK (y3h yu y1b y03) Tryz.f76 1 K)))))) (So (y1b l2 p n w) (fun (y2 : Int × List Int) => (Loop (y3h yu y1b y03) (⟨64, 1⟩ : Cx) (at_ (bodyOf Tryz.f76) [1, 1, 1, 0, 1, 0, 0]) (mkEnv [(1, .row 0), (2, vi p), (3, vi n), (4, vi kindv), (5, .ptr 1 0), (11, vi p)]) [.row 0 (y2.2 : List Int) false, .cells 30 (ye l2.C)] (contK (y3h yu y1b y03) (⟨64, 1⟩ : Cx) (bodyOf Tryz.f76) [1, 1, 1, 0, 1, 0] (retK (y3h yu y1b y03) Tryz.f76 1 K))))))))))) := by kernel_rfl
theorem yps (y0e : Y9) (y03 : Y18) (l2 : T_assartref02_Layout) (p : Int) (w : List Int) (k n : Int) (w2 : List Int) (K : V → Heap → Prop) (J1 : Env → Heap → Prop) : (ex (y51 y0e y03) (⟨43, 1⟩ : Cx) (at_ (bodyOf Tryz.f87) [1, 1, 1, 1, 1, 0, 0, 0]) (mkEnv [(1, .row 0), (2, vi p), (3, .ptr 1 0), (7, vi k), (8, vi n)]) [.row 0 w2 false, .cells 30 (ye (Go.Rx.T_assartref02_Layout.C l2))] (roundK (y51 y0e y03) (⟨43, 1⟩ : Cx) (at_ (bodyOf Tryz.f87) [1, 1, 1, 1, 1, 0, 0, 0]) (contK (y51 y0e y03) (⟨43, 1⟩ : Cx) (bodyOf Tryz.f87) [1, 1, 1, 1, 1, 0, 0] (retK (y51 y0e y03) Tryz.f87 1 K)) J1)) = (
    br (k == 6) (So (y0e l2 (IntKind.i64.wrap (p + n)) w2) (fun (y0 : Int) => (br (y0 == 7) (So (y03 l2 (IntKind.i64.wrap (p + n)) 0 0 w2) (fun (y1 : List Int) => (J1 (mkEnv [(1, .row 0), (2, vi p), (3, .ptr 1 0), (7, vi k), (8, vi (IntKind.i64.wrap (n + 1)))]) [.row 0 y1 false, .cells 30 (ye l2.C)]))) (K (vi n) [.row 0 w2 false])))) (K (vi n) [.row 0 w2 false])) := by kernel_rfl
theorem ykl (y0e : Y9) (y03 : Y18) (l2 : T_assartref02_Layout) (p : Int) (w : List Int) (K : V → Heap → Prop) : (exF (y51 y0e y03) Tryz.f87 [.agg (y0g l2), .row 0, vi p] [.row 0 w false] K) = (
    So (y0e l2 p w) (fun (y0 : Int) => (br (decide (y0 < 1)) (K (vi 0) [.row 0 w false]) (br (decide (y0 > 6)) (K (vi 0) [.row 0 w false]) (So (y03 l2 p 0 0 w) (fun (y1 : List Int) => (Loop (y51 y0e y03) (⟨43, 1⟩ : Cx) (at_ (bodyOf Tryz.f87) [1, 1, 1, 1, 1, 0, 0, 0]) (mkEnv [(1, .row 0), (2, vi p), (3, .ptr 1 0), (7, vi y0), (8, vi 1)]) [.row 0 y1 false, .cells 30 (ye l2.C)] (contK (y51 y0e y03) (⟨43, 1⟩ : Cx) (bodyOf Tryz.f87) [1, 1, 1, 1, 1, 0, 0] (retK (y51 y0e y03) Tryz.f87 1 K))))))))) := by kernel_rfl
def y0e (l2 : T_assartref02_Layout) (p : Int) (w : List Int) : Option Int :=
  (bif (decide (p < 0)) then some (-1) else (bif (decide (p ≥ l2.C.Pages)) then some (-1) else ((y06 l2 p).bind fun y0 => (bif (inR y0 w.length) then (bif (inR (offs y0 0) w.length) then some (w.getD (offs y0 0).toNat 0) else none) else none))))
def y6e (l2 : T_assartref02_Layout) (p n : Int) (mapped : Bool) (w : List Int) (iv : Int) : Option (Int ⊕ Bool) :=
  (bif (decide (iv < IntKind.i64.wrap (p + n))) then ((y0e l2 iv w).bind fun y0 => (bif (y0 != 0) then some (.inr false) else (bif mapped then ((yq iv).bind fun y1 => ((y04 l2 y1 w).bind fun y2 => (bif (!y2) then some (.inr false) else some (.inl (IntKind.i64.wrap (iv + 1)))))) else some (.inl (IntKind.i64.wrap (iv + 1)))))) else some (.inr true))
def yfc (l2 : T_assartref02_Layout) (p n : Int) (mapped : Bool) (w : List Int) (s : Int) : Option Bool :=
  loopO (fun s => y6e l2 p n mapped w s) s
def yu (l2 : T_assartref02_Layout) (p n : Int) (mapped : Bool) (w : List Int) : Option Bool :=
  (bif (decide (p < 0)) then some false else (bif (decide (p ≥ l2.C.Pages)) then some false else (bif (decide (n < 1)) then some false else (bif (decide (n > IntKind.i64.wrap (l2.C.Pages - p))) then some false else (yfc l2 p n mapped w p)))))
def y6r (l2 : T_assartref02_Layout) (n step : Int) (w : List Int) (p : Int) : Option (Int ⊕ Int) :=
  (bif (decide (p < l2.C.Pages)) then (bif (!step == 0) then (bif (Int.tmod p step == 0) then ((yu l2 p n false w).bind fun y0 => (bif y0 then some (.inr p) else some (.inl (IntKind.i64.wrap (p + 1))))) else some (.inl (IntKind.i64.wrap (p + 1)))) else none) else some (.inr (-1)))
def yal (l2 : T_assartref02_Layout) (n step : Int) (w : List Int) (s : Int) : Option Int :=
  loopO (fun s => y6r l2 n step w s) s
def y6b (l2 : T_assartref02_Layout) (n step : Int) (w : List Int) (p : Int) : Option (Int ⊕ Int) :=
  (bif (decide (p < l2.C.Pages)) then (bif (!step == 0) then (bif (Int.tmod p step == 0) then ((yu l2 p n true w).bind fun y0 => (bif y0 then some (.inr p) else some (.inl (IntKind.i64.wrap (p + 1))))) else some (.inl (IntKind.i64.wrap (p + 1)))) else none) else ((yal l2 n step w 0).bind fun z => some (.inr z)))
def yih (l2 : T_assartref02_Layout) (n step : Int) (w : List Int) (s : Int) : Option Int :=
  loopO (fun s => y6b l2 n step w s) s
def y3k (l2 : T_assartref02_Layout) (n step : Int) (w : List Int) : Option Int :=
  (bif (decide (n < 1)) then some (-1) else (bif (decide (step < 1)) then some (-1) else (yih l2 n step w 0)))
def y03 (l2 : T_assartref02_Layout) (p kindv count : Int) (w : List Int) : Option (List Int) :=
  ((y06 l2 p).bind fun y0 => (bif (inR y0 w.length) then (bif (inR (offs y0 0) w.length) then ((y0a l2 p).bind fun y1 => (bif (inR y1 (List.length (List.set w (offs y0 0).toNat kindv))) then (bif (inR (offs y1 0) (List.length (List.set w (offs y0 0).toNat kindv))) then ((ym l2 p).bind fun y2 => (bif (inR y2 (List.length (List.set (List.set w (offs y0 0).toNat kindv) (offs y1 0).toNat count))) then (bif (inR (offs y2 0) (List.length (List.set (List.set w (offs y0 0).toNat kindv) (offs y1 0).toNat count))) then some (List.set (List.set (List.set w (offs y0 0).toNat kindv) (offs y1 0).toNat count) (offs y2 0).toNat 0) else none) else none)) else none) else none)) else none) else none))
def y6v (l2 : T_assartref02_Layout) (p n : Int) (kindv iv : Int) (w2 : List Int) : Option ((Int × (List Int)) ⊕ (Bool × (List Int))) :=
  (bif (decide (iv < IntKind.i64.wrap (p + n))) then ((y03 l2 iv 7 0 w2).bind fun y0 => some (.inl ((IntKind.i64.wrap (iv + 1)), y0))) else (bif (kindv == 6) then ((y03 l2 p kindv n w2).bind fun y1 => some (.inr (true, y1))) else ((y03 l2 p kindv 0 w2).bind fun y2 => some (.inr (true, y2)))))
def y7f (l2 : T_assartref02_Layout) (p n kindv : Int) (s : Int × (List Int)) : Option (Bool × (List Int)) :=
  loopO (fun s => y6v l2 p n kindv s.1 s.2) s
def y3y (l2 : T_assartref02_Layout) (p n kindv : Int) (w : List Int) : Option (Bool × (List Int)) :=
  ((yu l2 p n false w).bind fun y0 => (bif (!y0) then some (false, w) else (bif (decide (kindv < 1)) then some (false, w) else (bif (decide (kindv > 6)) then some (false, w) else (bif (decide (kindv < 6)) then (bif (n != 1) then some (false, w) else ((y1b l2 p n w).bind fun y1 => (y7f l2 p n kindv (p, y1.2)))) else ((y1b l2 p n w).bind fun y2 => (y7f l2 p n kindv (p, y2.2))))))))
def y6i (l2 : T_assartref02_Layout) (p k n : Int) (w2 : List Int) : Option ((Int × (List Int)) ⊕ (Int × (List Int))) :=
  (bif (k == 6) then ((y0e l2 (IntKind.i64.wrap (p + n)) w2).bind fun y0 => (bif (y0 == 7) then ((y03 l2 (IntKind.i64.wrap (p + n)) 0 0 w2).bind fun y1 => some (.inl ((IntKind.i64.wrap (n + 1)), y1))) else some (.inr (n, w2)))) else some (.inr (n, w2)))
def yh0 (l2 : T_assartref02_Layout) (p k : Int) (s : Int × (List Int)) : Option (Int × (List Int)) :=
  loopO (fun s => y6i l2 p k s.1 s.2) s
def y44 (l2 : T_assartref02_Layout) (p : Int) (w : List Int) : Option (Int × (List Int)) :=
  ((y0e l2 p w).bind fun y0 => (bif (decide (y0 < 1)) then some (0, w) else (bif (decide (y0 > 6)) then some (0, w) else ((y03 l2 p 0 0 w).bind fun y1 => (yh0 l2 p y0 (1, y1))))))
attribute [local irreducible] Loop ex exF contK roundK retK at_ bodyOf mkEnv
theorem yhg : SpecOK Tryz.prog elTT 122 (ybt y0e) := by
  refine spec_of_exF (cfg := (yfs y06)) (yg rfl rfl rfl) (yc y7l yh) (fn := Tryz.f122) (by kernel_rfl) (by kernel_rfl) (by kernel_rfl) ?_
  intro args H K h
  change y9j y0e args H K at h
  unfold y9j at h
  repeat first | (obtain ⟨_, h⟩ := h) | replace h := Des.el h
  subst_vars
  refine Eq.mpr (yjx y06 _ _ _ K) ?_
  unfold y0e at h
  revert h
  exact br_So (fun h => h) (br_So (fun h => h) (bind_So fun y0 => req_So (req_So (fun h => h))))
theorem lpok_ref09_open_L1 (l2 : T_assartref02_Layout) (p n : Int) (mapped : Bool) (w : List Int) (iv : Int) (K : V → Heap → Prop) : So (yfc l2 p n mapped w iv) (fun (x : Bool) => K (vb x) [.row 0 w true]) → Loop (y4q y0e yq y04) (⟨58, 1⟩ : Cx) (at_ (bodyOf Tryz.f111) [1, 1, 0, 1, 0, 0]) (mkEnv [(1, .row 0), (2, vi p), (3, vi n), (4, vb mapped), (5, .ptr 1 0), (11, vi iv)]) [.row 0 w true, .cells 30 (ye l2.C)] (contK (y4q y0e yq y04) (⟨58, 1⟩ : Cx) (bodyOf Tryz.f111) [1, 1, 0, 1, 0] (retK (y4q y0e yq y04) Tryz.f111 1 K)) := by
  refine loopK_So (fun (s_ : Int) => (mkEnv [(1, .row 0), (2, vi p), (3, vi n), (4, vb mapped), (5, .ptr 1 0), (11, vi s_)])) (fun (s_ : Int) => [.row 0 w true, .cells 30 (ye l2.C)]) (fun (x : Bool) => K (vb x) [.row 0 w true]) ?_ iv
  intro s_ J1 h
  clear iv
  revert h; revert s_; intro iv h
  refine Eq.mpr (ykb y0e yq y04 l2 p n mapped w iv K J1) ?_
  have h : So (y6e l2 p n mapped w iv) _ := h
  unfold y6e at h
  revert h
  exact br_So (bind_So fun y0 => br_So (fun h => h) (br_So (bind_So fun y1 => bind_So fun y2 => br_So (fun h => h) (fun h => h)) (fun h => h))) (fun h => h)
theorem yjc : SpecOK Tryz.prog elTT 111 (yc0 yu) := by
  refine spec_of_exF (cfg := (y4q y0e yq y04)) (yg rfl rfl rfl) (yc yhg (yc y8f (yc ya7 yh))) (fn := Tryz.f111) (by kernel_rfl) (by kernel_rfl) (by kernel_rfl) ?_
  intro args H K h
  change y8e yu args H K at h
  unfold y8e at h
  repeat first | (obtain ⟨_, h⟩ := h) | replace h := Des.el h
  subst_vars
  refine Eq.mpr (ype y0e yq y04 _ _ _ _ _ K) ?_
  unfold yu at h
  revert h
  exact br_So (fun h => h) (br_So (fun h => h) (br_So (fun h => h) (br_So (fun h => h) (lpok_ref09_open_L1 _ _ _ _ _ _ K))))
theorem lpok_ref09_Find_L2 (l2 : T_assartref02_Layout) (n step : Int) (w : List Int) (p : Int) (K : V → Heap → Prop) : So (yal l2 n step w p) (fun (x : Int) => K (vi x) [.row 0 w true]) → Loop (y2b yu) (⟨55, 1⟩ : Cx) (at_ (bodyOf Tryz.f75) [1, 1, 1, 0, 1, 0, 0]) (mkEnv [(1, .row 0), (2, vi n), (3, vi step), (4, .ptr 1 0), (10, vi p)]) [.row 0 w true, .cells 30 (ye l2.C)] (contK (y2b yu) (⟨55, 1⟩ : Cx) (bodyOf Tryz.f75) [1, 1, 1, 0, 1, 0] (retK (y2b yu) Tryz.f75 1 K)) := by
  refine loopK_So (fun (s_ : Int) => (mkEnv [(1, .row 0), (2, vi n), (3, vi step), (4, .ptr 1 0), (10, vi s_)])) (fun (s_ : Int) => [.row 0 w true, .cells 30 (ye l2.C)]) (fun (x : Int) => K (vi x) [.row 0 w true]) ?_ p
  intro s_ J1 h
  clear p
  revert h; revert s_; intro p h
  refine Eq.mpr (yqn yu l2 n step w p K J1) ?_
  have h : So (y6r l2 n step w p) _ := h
  unfold y6r at h
  revert h
  exact br_So (req_So (br_So (bind_So fun y0 => br_So (fun h => h) (fun h => h)) (fun h => h))) (fun h => h)
theorem lpok_ref09_Find_L1 (l2 : T_assartref02_Layout) (n step : Int) (w : List Int) (p : Int) (K : V → Heap → Prop) : So (yih l2 n step w p) (fun (x : Int) => K (vi x) [.row 0 w true]) → Loop (y2b yu) (⟨55, 1⟩ : Cx) (at_ (bodyOf Tryz.f75) [1, 1, 0, 1, 0, 0]) (mkEnv [(1, .row 0), (2, vi n), (3, vi step), (4, .ptr 1 0), (9, vi p)]) [.row 0 w true, .cells 30 (ye l2.C)] (contK (y2b yu) (⟨55, 1⟩ : Cx) (bodyOf Tryz.f75) [1, 1, 0, 1, 0] (retK (y2b yu) Tryz.f75 1 K)) := by
  refine loopK_So (fun (s_ : Int) => (mkEnv [(1, .row 0), (2, vi n), (3, vi step), (4, .ptr 1 0), (9, vi s_)])) (fun (s_ : Int) => [.row 0 w true, .cells 30 (ye l2.C)]) (fun (x : Int) => K (vi x) [.row 0 w true]) ?_ p
  intro s_ J1 h
  clear p
  revert h; revert s_; intro p h
  refine Eq.mpr (ymw yu l2 n step w p K J1) ?_
  have h : So (y6b l2 n step w p) _ := h
  unfold y6b at h
  revert h
  exact br_So (req_So (br_So (bind_So fun y0 => br_So (fun h => h) (fun h => h)) (fun h => h))) (mapK_So (lpok_ref09_Find_L2 l2 n step w 0 K))
theorem ykj : SpecOK Tryz.prog elTT 75 (ydh y3k) := by
  refine spec_of_exF (cfg := (y2b yu)) (yg rfl rfl rfl) (yc yjc yh) (fn := Tryz.f75) (by kernel_rfl) (by kernel_rfl) (by kernel_rfl) ?_
  intro args H K h
  change ycn y3k args H K at h
  unfold ycn at h
  repeat first | (obtain ⟨_, h⟩ := h) | replace h := Des.el h
  subst_vars
  refine Eq.mpr (ypt yu _ _ _ _ K) ?_
  unfold y3k at h
  revert h
  exact br_So (fun h => h) (br_So (fun h => h) (lpok_ref09_Find_L1 _ _ _ _ _ K))
theorem yhp : SpecOK Tryz.prog elTT 113 (y8b y03) := by
  refine spec_of_exF (cfg := (yg7 y06 y0a ym)) (yg rfl rfl rfl) (yc y7l (yc y8i (yc y6a yh))) (fn := Tryz.f113) (by kernel_rfl) (by kernel_rfl) (by kernel_rfl) ?_
  intro args H K h
  change yba y03 args H K at h
  unfold yba at h
  repeat first | (obtain ⟨_, h⟩ := h) | replace h := Des.el h
  subst_vars
  refine Eq.mpr (yn5 y06 y0a ym _ _ _ _ _ K) ?_
  unfold y03 at h
  revert h
  exact bind_So fun y0 => req_So (req_So (bind_So fun y1 => req_So (req_So (bind_So fun y2 => req_So (req_So (fun h => h))))))
theorem lpok_ref09_Take_L1 (l2 : T_assartref02_Layout) (p n kindv : Int) (w : List Int) (iv : Int) (w2 : List Int) (K : V → Heap → Prop) : So (y7f l2 p n kindv (iv, w2)) (fun (x : Bool × (List Int)) => K (vb x.1) [.row 0 x.2 false]) → Loop (y3h yu y1b y03) (⟨64, 1⟩ : Cx) (at_ (bodyOf Tryz.f76) [1, 1, 1, 0, 1, 0, 0]) (mkEnv [(1, .row 0), (2, vi p), (3, vi n), (4, vi kindv), (5, .ptr 1 0), (11, vi iv)]) [.row 0 w2 false, .cells 30 (ye l2.C)] (contK (y3h yu y1b y03) (⟨64, 1⟩ : Cx) (bodyOf Tryz.f76) [1, 1, 1, 0, 1, 0] (retK (y3h yu y1b y03) Tryz.f76 1 K)) := by
  refine loopK_So (fun (s_ : Int × (List Int)) => (mkEnv [(1, .row 0), (2, vi p), (3, vi n), (4, vi kindv), (5, .ptr 1 0), (11, vi s_.1)])) (fun (s_ : Int × (List Int)) => [.row 0 (s_.2 : List Int) false, .cells 30 (ye l2.C)]) (fun (x : Bool × (List Int)) => K (vb x.1) [.row 0 x.2 false]) ?_ (iv, w2)
  intro s_ J1 h
  clear iv
  clear w2
  obtain ⟨iv, w2⟩ := s_
  refine Eq.mpr (ypl yu y1b y03 l2 p n kindv w iv w2 K J1) ?_
  have h : So (y6v l2 p n kindv iv w2) _ := h
  unfold y6v at h
  revert h
  exact br_So (bind_So fun y0 => fun h => h) (br_So (bind_So fun y1 => fun h => h) (bind_So fun y2 => fun h => h))
theorem ynx : SpecOK Tryz.prog elTT 76 (yey y3y) := by
  refine spec_of_exF (cfg := (y3h yu y1b y03)) (yg rfl rfl rfl) (yc yjc (yc yoy (yc yhp yh))) (fn := Tryz.f76) (by kernel_rfl) (by kernel_rfl) (by kernel_rfl) ?_
  intro args H K h
  change y84 y3y args H K at h
  unfold y84 at h
  repeat first | (obtain ⟨_, h⟩ := h) | replace h := Des.el h
  subst_vars
  refine Eq.mpr (ynk yu y1b y03 _ _ _ _ _ K) ?_
  unfold y3y at h
  revert h
  exact bind_So fun y0 => br_So (fun h => h) (br_So (fun h => h) (br_So (fun h => h) (br_So (br_So (fun h => h) (bind_So fun y1 => lpok_ref09_Take_L1 _ _ _ _ (by first | assumption | exact default) _ _ K)) (bind_So fun y2 => lpok_ref09_Take_L1 _ _ _ _ (by first | assumption | exact default) _ _ K))))
theorem lpok_ref09_Drop_L1 (l2 : T_assartref02_Layout) (p : Int) (w : List Int) (k n : Int) (w2 : List Int) (K : V → Heap → Prop) : So (yh0 l2 p k (n, w2)) (fun (x : Int × (List Int)) => K (vi x.1) [.row 0 x.2 false]) → Loop (y51 y0e y03) (⟨43, 1⟩ : Cx) (at_ (bodyOf Tryz.f87) [1, 1, 1, 1, 1, 0, 0, 0]) (mkEnv [(1, .row 0), (2, vi p), (3, .ptr 1 0), (7, vi k), (8, vi n)]) [.row 0 w2 false, .cells 30 (ye l2.C)] (contK (y51 y0e y03) (⟨43, 1⟩ : Cx) (bodyOf Tryz.f87) [1, 1, 1, 1, 1, 0, 0] (retK (y51 y0e y03) Tryz.f87 1 K)) := by
  refine loopK_So (fun (s_ : Int × (List Int)) => (mkEnv [(1, .row 0), (2, vi p), (3, .ptr 1 0), (7, vi k), (8, vi s_.1)])) (fun (s_ : Int × (List Int)) => [.row 0 (s_.2 : List Int) false, .cells 30 (ye l2.C)]) (fun (x : Int × (List Int)) => K (vi x.1) [.row 0 x.2 false]) ?_ (n, w2)
  intro s_ J1 h
  clear n
  clear w2
  obtain ⟨n, w2⟩ := s_
  refine Eq.mpr (yps y0e y03 l2 p w k n w2 K J1) ?_
  have h : So (y6i l2 p k n w2) _ := h
  unfold y6i at h
  revert h
  exact br_So (bind_So fun y0 => br_So (bind_So fun y1 => fun h => h) (fun h => h)) (fun h => h)
theorem ynz : SpecOK Tryz.prog elTT 87 (yi9 y44) := by
  refine spec_of_exF (cfg := (y51 y0e y03)) (yg rfl rfl rfl) (yc yhg (yc yhp yh)) (fn := Tryz.f87) (by kernel_rfl) (by kernel_rfl) (by kernel_rfl) ?_
  intro args H K h
  change ycb y44 args H K at h
  unfold ycb at h
  repeat first | (obtain ⟨_, h⟩ := h) | replace h := Des.el h
  subst_vars
  refine Eq.mpr (ykl y0e y03 _ _ _ K) ?_
  unfold y44 at h
  revert h
  exact bind_So fun y0 => br_So (fun h => h) (br_So (fun h => h) (bind_So fun y1 => lpok_ref09_Drop_L1 _ _ (by first | assumption | exact default) _ _ _ K))
end Go.Rx
end

section
namespace Go.Rx
open Go.Proofs
theorem offs_id {a : Int} (h : 0 ≤ a) : offs a 0 = a := by
  have e : a = ((a.toNat : Nat) : Int) := by omega
  rw [e]; rfl
section
variable {c : yb} {w : List Int}
theorem r9Kind_eq (h : RightC c) (v : VOK (layC c) w.length w) (p : Int) : y0e ⟨c⟩ p w = some (knd (layC c).at_1 c.Pages w p) := by
  have g := v.lay.geoK; have ha := v.all; have hpg := h.pages
  have e0 : (layC c).c = c := rfl
  rw [e0] at g
  unfold y0e
  by_cases a : p < 0
  · rw [decide_eq_true a, cond_true, knd_out (by omega)]
  rw [decide_eq_false a, cond_false]
  by_cases b : p ≥ c.Pages
  · rw [decide_eq_true b, cond_true, knd_out (by omega)]
  rw [decide_eq_false b, cond_false, rKind_eq h, Option.bind_some]
  have e1 : lPg (layC c) (layC c).at_1 p = (layC c).at_1 + p := by unfold lPg; rw [e0, if_pos (by omega)]
  rw [e1, offs_id (by omega), inR_int (by omega) (by omega), cond_true, cond_true, knd_in (by omega)]; rfl
def OpenR (kb pg tb : Int) (w : List Int) (m : Bool) (p n : Int) : Prop := FreeR kb pg w p n ∧ (m = true → ∀ j, p ≤ j → j < p + n → isB w pg tb (j / 4) 1 = true)
theorem r9open_eq (h : RightC c) (v : VOK (layC c) w.length w) (p n : Int) (m : Bool) : ∃ b, yu ⟨c⟩ p n m w = some b ∧ (b = true ↔ OpenR (layC c).at_1 c.Pages (layC c).at_0 w m p n) := by
  have hpg := h.pages
  have no : ¬ (1 ≤ n ∧ 0 ≤ p ∧ p < c.Pages ∧ n ≤ c.Pages - p) → ((false = true) ↔ OpenR (layC c).at_1 c.Pages (layC c).at_0 w m p n) := fun hn => ⟨fun x => (by cases x), fun x => (hn x.1.span).elim⟩
  unfold yu
  by_cases a : p < 0
  · rw [decide_eq_true a, cond_true]; exact ⟨_, rfl, no (by omega)⟩
  rw [decide_eq_false a, cond_false]
  by_cases b : p ≥ c.Pages
  · rw [decide_eq_true b, cond_true]; exact ⟨_, rfl, no (by omega)⟩
  rw [decide_eq_false b, cond_false]
  by_cases d : n < 1
  · rw [decide_eq_true d, cond_true]; exact ⟨_, rfl, no (by omega)⟩
  rw [decide_eq_false d, cond_false, wrap_id (x := c.Pages - p) (by omega) (by omega)]
  by_cases e : n > c.Pages - p
  · rw [decide_eq_true e, cond_true]; exact ⟨_, rfl, no (by omega)⟩
  rw [decide_eq_false e, cond_false]
  exact loopO_ind (step := fun s : Int => y6e ⟨c⟩ p n m w s)
    (I := fun i => p ≤ i ∧ i ≤ p + n ∧ ∀ j, p ≤ j → j < i → wd w ((layC c).at_1 + j) = 0 ∧ (m = true → isB w c.Pages (layC c).at_0 (j / 4) 1 = true)) (μ := fun i => (p + n - i).toNat)
    (fun b => b = true ↔ OpenR (layC c).at_1 c.Pages (layC c).at_0 w m p n) (by
      rintro i ⟨i0, i1, i2⟩
      simp only [y6e]
      rw [wrap_id (x := p + n) (by omega) (by omega)]
      by_cases cc : i < p + n
      · rw [decide_eq_true cc, cond_true, r9Kind_eq h v, Option.bind_some, knd_in (by omega), wrap_id (x := i + 1) (by omega) (by omega)]
        by_cases z : wd w ((layC c).at_1 + i) = 0
        · have e1 : (wd w ((layC c).at_1 + i) != 0) = false := by rw [z]; rfl
          rw [e1, cond_false]
          have more : (m = true → isB w c.Pages (layC c).at_0 (i / 4) 1 = true) → p ≤ i + 1 ∧ i + 1 ≤ p + n ∧ ∀ j, p ≤ j → j < i + 1 → wd w ((layC c).at_1 + j) = 0 ∧ (m = true → isB w c.Pages (layC c).at_0 (j / 4) 1 = true) := fun hm =>
            ⟨by omega, by omega, fun j j0 j1 => by
              by_cases f : j = i
              · rw [f]; exact ⟨z, hm⟩
              · exact i2 j j0 (by omega)⟩
          cases m with
          | false => exact .inl ⟨_, rfl, more (fun x => by cases x), by omega⟩
          | true =>
            have hch : chunkI i = i / 4 := by unfold chunkI; rw [decide_eq_false (by omega)]; rfl
            rw [cond_true, rOf_eq (by omega), Option.bind_some, rMapped_eq h v, Option.bind_some, hch]
            cases hb : isB w c.Pages (layC c).at_0 (i / 4) 1 with
            | true => exact .inl ⟨_, rfl, more (fun _ => hb), by omega⟩
            | false =>
              refine .inr ⟨_, rfl, ⟨fun x => (by cases x), fun x => ?_⟩⟩
              have := x.2 rfl i i0 cc
              rw [hb] at this; cases this
        · have e1 : (wd w ((layC c).at_1 + i) != 0) = true := by simpa using z
          rw [e1, cond_true]
          refine .inr ⟨_, rfl, ⟨fun x => (by cases x), fun x => ?_⟩⟩
          have := x.1.free (i - p) (by omega) (by omega)
          rw [show p + (i - p) = i by omega] at this
          exact (z this).elim
      · rw [decide_eq_false cc, cond_false]
        refine .inr ⟨_, rfl, ⟨fun _ => ⟨⟨by omega, fun k k0 k1 => (i2 (p + k) (by omega) (by omega)).1⟩, fun hm j j0 j1 => (i2 j j0 (by omega)).2 hm⟩, fun _ => rfl⟩⟩) p ⟨by omega, by omega, fun j j0 j1 => by omega⟩
theorem open_does {n step p : Int} : (p % step = 0 ∧ OpenR (layC c).at_1 c.Pages (layC c).at_0 w true p n) ↔ Does c.Pages step n (fun j => knd (layC c).at_1 c.Pages w j = 0 ∧ mpd (layC c) w j) p := by
  constructor
  · rintro ⟨m, f, hm⟩
    have hs := f.span
    refine ⟨m, hs, fun j j0 j1 => ⟨?_, hm rfl j j0 j1⟩⟩
    have := f.free (j - p) (by omega) (by omega)
    rw [knd_in (by omega)]
    rw [show p + (j - p) = j by omega] at this; exact this
  · intro d
    have hs := d.span
    refine ⟨d.mul, ⟨hs, fun i i0 i1 => ?_⟩, fun _ j j0 j1 => (d.all j j0 j1).2⟩
    have := (d.all (p + i) (by omega) (by omega)).1
    rw [knd_in (by omega)] at this; exact this
theorem open_does0 {n step p : Int} : (p % step = 0 ∧ OpenR (layC c).at_1 c.Pages (layC c).at_0 w false p n) ↔ Does c.Pages step n (fun j => knd (layC c).at_1 c.Pages w j = 0) p := by
  rw [does_free]
  exact ⟨fun x => ⟨x.1, x.2.1⟩, fun x => ⟨x.1, x.2, fun h => by cases h⟩⟩
theorem r9Find_eq (h : RightC c) (v : VOK (layC c) w.length w) (n step : Int) : ∃ r, y3k ⟨c⟩ n step w = some r ∧ FindR (layC c) w n step r := by
  have hpg := h.pages
  have e0 : (layC c).c.Pages = c.Pages := rfl
  unfold y3k FindR
  by_cases a : n < 1
  · rw [decide_eq_true a, cond_true]; exact ⟨_, rfl, by rw [if_neg (by omega)]⟩
  rw [decide_eq_false a, cond_false]
  by_cases b : step < 1
  · rw [decide_eq_true b, cond_true]; exact ⟨_, rfl, by rw [if_neg (by omega)]⟩
  rw [decide_eq_false b, cond_false]
  simp only [if_pos (show 1 ≤ n ∧ 1 ≤ step by omega), e0]
  have hst : (!step == 0) = true := by simp; omega
  have inner : ∃ r, yal ⟨c⟩ n step w 0 = some r ∧ Least c.Pages (Does c.Pages step n (fun j => knd (layC c).at_1 c.Pages w j = 0)) r :=
    loopO_ind (step := fun s : Int => y6r ⟨c⟩ n step w s) (I := fun p => 0 ≤ p ∧ p ≤ c.Pages ∧ ∀ q, 0 ≤ q → q < p → ¬ Does c.Pages step n (fun j => knd (layC c).at_1 c.Pages w j = 0) q) (μ := fun p => (c.Pages - p).toNat)
      (fun r => Least c.Pages (Does c.Pages step n (fun j => knd (layC c).at_1 c.Pages w j = 0)) r) (by
        rintro p ⟨p0, p1, p2⟩
        simp only [y6r]
        by_cases cc : p < c.Pages
        · rw [decide_eq_true cc, cond_true, hst, cond_true, Int.tmod_eq_emod_of_nonneg p0, wrap_id (x := p + 1) (by omega) (by omega)]
          have next : ¬ Does c.Pages step n (fun j => knd (layC c).at_1 c.Pages w j = 0) p → 0 ≤ p + 1 ∧ p + 1 ≤ c.Pages ∧ ∀ q, 0 ≤ q → q < p + 1 → ¬ Does c.Pages step n (fun j => knd (layC c).at_1 c.Pages w j = 0) q := fun hn =>
            ⟨by omega, by omega, fun q q0 q1 => by
              by_cases f : q = p
              · rw [f]; exact hn
              · exact p2 q q0 (by omega)⟩
          by_cases m : p % step = 0
          · have em : (p % step == 0) = true := by rw [m]; rfl
            obtain ⟨b, b1, b2⟩ := r9open_eq h v p n false
            rw [em, cond_true, b1, Option.bind_some]
            cases b with
            | true => exact .inr ⟨_, rfl, fit_hit (open_does0.1 ⟨m, b2.1 rfl⟩) p2⟩
            | false => exact .inl ⟨_, rfl, next (fun d => by have := b2.2 (open_does0.2 d).2; cases this), by omega⟩
          · have em : (p % step == 0) = false := by simpa using m
            rw [em, cond_false]
            exact .inl ⟨_, rfl, next (fun d => m d.mul), by omega⟩
        · rw [decide_eq_false cc, cond_false]
          exact .inr ⟨_, rfl, .inl ⟨rfl, fun q q0 q1 => p2 q q0 (by omega)⟩⟩) 0 ⟨by omega, by omega, fun q q0 q1 => by omega⟩
  obtain ⟨r2, k1, k2⟩ := inner
  exact loopO_ind (step := fun s : Int => y6b ⟨c⟩ n step w s) (I := fun p => 0 ≤ p ∧ p ≤ c.Pages ∧ ∀ q, 0 ≤ q → q < p → ¬ Does c.Pages step n (fun j => knd (layC c).at_1 c.Pages w j = 0 ∧ mpd (layC c) w j) q) (μ := fun p => (c.Pages - p).toNat)
    (fun r => Found c.Pages step n (fun j => knd (layC c).at_1 c.Pages w j = 0) (mpd (layC c) w) r) (by
      rintro p ⟨p0, p1, p2⟩
      simp only [y6b]
      by_cases cc : p < c.Pages
      · rw [decide_eq_true cc, cond_true, hst, cond_true, Int.tmod_eq_emod_of_nonneg p0, wrap_id (x := p + 1) (by omega) (by omega)]
        have next : ¬ Does c.Pages step n (fun j => knd (layC c).at_1 c.Pages w j = 0 ∧ mpd (layC c) w j) p → 0 ≤ p + 1 ∧ p + 1 ≤ c.Pages ∧ ∀ q, 0 ≤ q → q < p + 1 → ¬ Does c.Pages step n (fun j => knd (layC c).at_1 c.Pages w j = 0 ∧ mpd (layC c) w j) q := fun hn =>
          ⟨by omega, by omega, fun q q0 q1 => by
            by_cases f : q = p
            · rw [f]; exact hn
            · exact p2 q q0 (by omega)⟩
        by_cases m : p % step = 0
        · have em : (p % step == 0) = true := by rw [m]; rfl
          obtain ⟨b, b1, b2⟩ := r9open_eq h v p n true
          rw [em, cond_true, b1, Option.bind_some]
          cases b with
          | true => exact .inr ⟨_, rfl, .inl ⟨p0, fit_hit (open_does.1 ⟨m, b2.1 rfl⟩) p2⟩⟩
          | false => exact .inl ⟨_, rfl, next (fun d => by have := b2.2 (open_does.2 d).2; cases this), by omega⟩
        · have em : (p % step == 0) = false := by simpa using m
          rw [em, cond_false]
          exact .inl ⟨_, rfl, next (fun d => m d.mul), by omega⟩
      · rw [decide_eq_false cc, cond_false, k1]
        exact .inr ⟨_, rfl, .inr ⟨.inl ⟨rfl, fun q q0 q1 => p2 q q0 (by omega)⟩, k2⟩⟩) 0 ⟨by omega, by omega, fun q q0 q1 => by omega⟩
theorem r9set_eq (h : RightC c) (v : VOK (layC c) w.length w) {p : Int} (hp : 0 ≤ p ∧ p < c.Pages) (k n : Int) : y03 ⟨c⟩ p k n w = some (setP (layC c).at_1 c.Pages w p k n) := by
  have g := v.lay.geoK; have ha := v.all; have hpg := h.pages
  have e0 : (layC c).c = c := rfl
  rw [e0] at g
  unfold y03
  have e1 : lPg (layC c) (layC c).at_1 p = (layC c).at_1 + p := by unfold lPg; rw [e0, if_pos hp]
  have e2 : lPg (layC c) (layC c).at_2 p = (layC c).at_1 + c.Pages + p := by unfold lPg; rw [e0, if_pos hp]; omega
  have e3 : lPg (layC c) (layC c).at_3 p = (layC c).at_1 + 2 * c.Pages + p := by unfold lPg; rw [e0, if_pos hp]; omega
  rw [rKind_eq h, Option.bind_some, rCount_eq h, Option.bind_some, rBits_eq h, Option.bind_some, e1, e2, e3, offs_id (by omega), offs_id (by omega), offs_id (by omega)]
  simp only [List.length_set]
  rw [inR_int (by omega) (by omega), inR_int (by omega) (by omega), inR_int (by omega) (by omega)]; rfl
theorem r9Take_yes (h : RightC c) (v : VOK (layC c) w.length w) {p n k : Int} (hm : MayTake (layC c) w p n k) : ∃ u, y3y ⟨c⟩ p n k w = some (true, u) ∧ (∀ u', TakeW (layC c) w u' p n k → u = u') := by
  obtain ⟨⟨k1, k2⟩, k3, f⟩ := hm
  have hs := f.span
  have e0 : (layC c).c.Pages = c.Pages := rfl
  rw [e0] at hs
  have hpg := h.pages
  obtain ⟨b, b1, b2⟩ := r9open_eq h v p n false
  have hb : b = true := b2.2 ⟨f, fun x => by cases x⟩
  subst hb
  have ve : VOK (layC c) (ensM w c.Pages (layC c).at_0 p n).2.length (ensM w c.Pages (layC c).at_0 p n).2 := ⟨v.lay, rfl, by unfold ensM; rw [ensG_len]; exact v.all⟩
  have g : GeoK (layC c).at_1 c.Pages (ensM w c.Pages (layC c).at_0 p n).2.length := ve.geoK
  have loop : ∃ u, y7f ⟨c⟩ p n k (p, (ensM w c.Pages (layC c).at_0 p n).2) = some (true, u) ∧ ∃ u2, Ran (layC c).at_1 c.Pages (ensM w c.Pages (layC c).at_0 p n).2 u2 p n 7 ∧ u = setP (layC c).at_1 c.Pages u2 p k (if k = 6 then n else 0) := by
    generalize (ensM w c.Pages (layC c).at_0 p n).2 = w0 at *
    obtain ⟨r, h1, u, rfl, h2⟩ := loopO_ind (step := fun s : Int × List Int => y6v ⟨c⟩ p n k s.1 s.2)
      (I := fun s => p ≤ s.1 ∧ s.1 ≤ p + n ∧ Ran (layC c).at_1 c.Pages w0 s.2 p (s.1 - p) 7) (μ := fun s => (p + n - s.1).toNat) (fun r => ∃ u, r = (true, u) ∧ ∃ u2, Ran (layC c).at_1 c.Pages w0 u2 p n 7 ∧ u = setP (layC c).at_1 c.Pages u2 p k (if k = 6 then n else 0)) (by
        rintro ⟨i, u⟩ ⟨i1, i2, i3⟩
        simp only at i1 i2 i3 ⊢
        simp only [y6v]
        have vu : VOK (layC c) u.length u := ⟨v.lay, rfl, by rw [i3.len]; exact ve.all⟩
        rw [wrap_id (x := p + n) (by omega) (by omega)]
        by_cases cc : i < p + n
        · rw [decide_eq_true cc, cond_true, r9set_eq h vu (by omega), Option.bind_some, wrap_id (by omega) (by omega)]
          have st := i3.step g (by omega) (by omega) (by omega)
          rw [show p + (i - p) = i by omega, show i - p + 1 = i + 1 - p by omega] at st
          exact .inl ⟨_, rfl, ⟨by simp only; omega, by simp only; omega, st⟩, by simp only; omega⟩
        · have e : i = p + n := by omega
          subst e
          rw [show p + n - p = n by omega] at i3
          rw [decide_eq_false cc, cond_false, r9set_eq h vu (by omega), r9set_eq h vu (by omega), Option.bind_some, Option.bind_some]
          by_cases e : k = 6
          · have e1 : (k == 6) = true := by rw [e]; rfl
            rw [e1, cond_true]
            exact .inr ⟨_, rfl, _, rfl, u, i3, by rw [if_pos e]⟩
          · have e1 : (k == 6) = false := by simpa using e
            rw [e1, cond_false]
            exact .inr ⟨_, rfl, _, rfl, u, i3, by rw [if_neg e]⟩) (p, w0) ⟨by omega, by omega, by simpa using Ran.zero _ _ _ _ _⟩
    exact ⟨u, h1, h2⟩
  obtain ⟨u, h1, u2, h2, rfl⟩ := loop
  refine ⟨_, ?_, fun u' t => take_same g hs t.ran h2⟩
  unfold y3y
  rw [b1, Option.bind_some, Bool.not_true, cond_false, decide_eq_false (show ¬ k < 1 by omega), cond_false, decide_eq_false (show ¬ k > 6 by omega), cond_false, rEnsure_eq h v, Option.bind_some, h1]
  by_cases c6 : k < 6
  · have e : (n != 1) = false := by rw [k3 c6]; rfl
    rw [decide_eq_true c6, cond_true, e]; rfl
  · rw [decide_eq_false c6]; rfl
theorem r9Drop_eq (h : RightC c) (v : VOK (layC c) w.length w) (p : Int) : ∃ n u, y44 ⟨c⟩ p w = some (n, u) ∧
    ((1 ≤ knd (layC c).at_1 c.Pages w p ∧ knd (layC c).at_1 c.Pages w p ≤ 6 ∧ RunLen (layC c).at_1 c.Pages w p n ∧ Ran (layC c).at_1 c.Pages w u p n 0) ∨
     (¬ (1 ≤ knd (layC c).at_1 c.Pages w p ∧ knd (layC c).at_1 c.Pages w p ≤ 6) ∧ n = 0 ∧ u = w)) := by
  have hpg := h.pages
  have g : GeoK (layC c).at_1 c.Pages w.length := v.geoK
  unfold y44
  rw [r9Kind_eq h v, Option.bind_some]
  by_cases a : knd (layC c).at_1 c.Pages w p < 1
  · rw [decide_eq_true a, cond_true]
    exact ⟨_, _, rfl, .inr ⟨by omega, rfl, rfl⟩⟩
  rw [decide_eq_false a, cond_false]
  by_cases b : knd (layC c).at_1 c.Pages w p > 6
  · rw [decide_eq_true b, cond_true]
    exact ⟨_, _, rfl, .inr ⟨by omega, rfl, rfl⟩⟩
  rw [decide_eq_false b, cond_false]
  have hp : 0 ≤ p ∧ p < c.Pages := by
    by_cases h : 0 ≤ p ∧ p < c.Pages
    · exact h
    · rw [knd_out h] at a; omega
  rw [r9set_eq h v hp, Option.bind_some]
  have r1 : Ran (layC c).at_1 c.Pages w (setP (layC c).at_1 c.Pages w p 0 0) p 1 0 := by
    have := (Ran.zero (layC c).at_1 c.Pages w p 0).step g (by omega) (by omega) (by omega)
    simpa using this
  obtain ⟨⟨n, u⟩, h1, h2, h3⟩ := loopO_ind (step := fun s : Int × List Int => y6i ⟨c⟩ p (knd (layC c).at_1 c.Pages w p) s.1 s.2)
    (I := fun s => 1 ≤ s.1 ∧ p + s.1 ≤ c.Pages ∧ (knd (layC c).at_1 c.Pages w p ≠ 6 → s.1 = 1) ∧ (∀ i, 1 ≤ i → i < s.1 → knd (layC c).at_1 c.Pages w (p + i) = 7) ∧ Ran (layC c).at_1 c.Pages w s.2 p s.1 0) (μ := fun s => (c.Pages - s.1).toNat)
    (fun r => RunLen (layC c).at_1 c.Pages w p r.1 ∧ Ran (layC c).at_1 c.Pages w r.2 p r.1 0) (by
      rintro ⟨i, u⟩ ⟨i1, i2, i3, i4, i5⟩
      simp only at i1 i2 i3 i4 i5 ⊢
      simp only [y6i]
      have vu : VOK (layC c) u.length u := ⟨v.lay, rfl, by rw [i5.len]; exact v.all⟩
      by_cases c6 : knd (layC c).at_1 c.Pages w p = 6
      · have e6 : (knd (layC c).at_1 c.Pages w p == 6) = true := by rw [c6]; rfl
        have hk : knd (layC c).at_1 c.Pages u (p + i) = knd (layC c).at_1 c.Pages w (p + i) := by rw [i5.knd g hp.1 i2, if_neg (by omega)]
        rw [e6, cond_true, wrap_id (x := p + i) (by omega) (by omega), r9Kind_eq h vu, Option.bind_some, hk]
        by_cases d : knd (layC c).at_1 c.Pages w (p + i) = 7
        · have e7 : (knd (layC c).at_1 c.Pages w (p + i) == 7) = true := by rw [d]; rfl
          have hin : p + i < c.Pages := by
            by_cases h : p + i < c.Pages
            · exact h
            · rw [knd_out (by omega)] at d; omega
          rw [e7, cond_true, r9set_eq h vu (by omega), Option.bind_some, wrap_id (by omega) (by omega)]
          refine .inl ⟨_, rfl, ⟨by simp only; omega, by simp only; omega, fun x => (x c6).elim, fun j j0 j1 => ?_, i5.step g hp.1 (by omega) hin⟩, by simp only; omega⟩
          by_cases f : j = i
          · rw [f]; exact d
          · exact i4 j j0 (by simp only at j1; omega)
        · have e7 : (knd (layC c).at_1 c.Pages w (p + i) == 7) = false := by simpa using d
          rw [e7, cond_false]
          exact .inr ⟨_, rfl, ⟨i1, i2, i4, fun _ => d, i3⟩, i5⟩
      · have e6 : (knd (layC c).at_1 c.Pages w p == 6) = false := by simpa using c6
        rw [e6, cond_false]
        exact .inr ⟨_, rfl, ⟨i1, i2, i4, fun x => (c6 x).elim, i3⟩, i5⟩) (1, setP (layC c).at_1 c.Pages w p 0 0) ⟨by omega, by simp only; omega, fun _ => rfl, fun j j0 j1 => by simp only at j1; omega, r1⟩
  refine ⟨n, u, h1, .inl ⟨by omega, by omega, h2, h3⟩⟩
end
end Go.Rx
end

section
namespace Go.Rx
def kw (L : ya) (w : List Int) (p : Int) : Int := wd w (L.at_1 + p)
def cw (L : ya) (w : List Int) (p : Int) : Int := wd w (L.at_2 + p)
def bw (L : ya) (w : List Int) (p : Int) : Int := wd w (L.at_3 + p)
structure ClsOK (L : ya) (w inn : List Int) (p c : Int) (m : Nat) : Prop where
  cls : 0 ≤ c ∧ c < 5
  kind : kw L w p = c + 1
  bits : bw L w p = m
  lt : m < 2 ^ (slotsC c).toNat
  left : cw L w p = slotsC c - popN m (slotsC c).toNat
  used : cw L w p < slotsC c
  linked : wd inn p = if cw L w p = 0 then 0 else 100 * c + cw L w p
structure FreeOK (L : ya) (w inn : List Int) (p : Int) : Prop where
  kind : kw L w p = 0
  bits : bw L w p = 0
  left : cw L w p = 0
  linked : wd inn p = 0
def PgOK (L : ya) (w inn : List Int) (p : Int) : Prop := FreeOK L w inn p ∨ ∃ c m, ClsOK L w inn p c m
structure Inv11 (L : ya) (w inn : List Int) (ls : Int → Int → List Int) : Prop where
  rep : RepW L.at_4 L.c.Pages w inn ls
  pg : ∀ p, 0 ≤ p → p < L.c.Pages → PgOK L w inn p
theorem LayOK.geo11 {L : ya} (h : LayOK L) : 1 ≤ L.at_1 ∧ L.at_2 = L.at_1 + L.c.Pages ∧ L.at_3 = L.at_1 + 2 * L.c.Pages ∧ L.at_4 = L.at_1 + 3 * L.c.Pages ∧ L.at_4 + 2 * L.c.Pages + 62 ≤ L.at_10 ∧ L.at_11 = L.at_10 + L.c.Pages * 32 ∧ L.at_11 ≤ 1048576 := by
  have := h.geo; have := h.geoK; have := h.a2; have := h.a3; have := h.a4; have := h.a5; have := h.a6; have := h.a7; have := h.a8b; have := h.a9; have := h.a10; have := h.a11; have := h.bin; have := h.pages; have := h.big
  refine ⟨by omega, by omega, by omega, by omega, by omega, by omega, by omega⟩
theorem slots_pow {c : Int} (h : 0 ≤ c ∧ c < 5) : (slotsC c).toNat ≤ 32 ∧ 2 ≤ slotsC c ∧ ((slotsC c).toNat : Int) = slotsC c := by
  have := slotsC_le c
  have e : c = 0 ∨ c = 1 ∨ c = 2 ∨ c = 3 ∨ c = 4 := by omega
  rcases e with rfl | rfl | rfl | rfl | rfl <;> simp [slotsC]
theorem bits_lt {m k : Nat} (h : m < 2 ^ k) (hk : k ≤ 32) : m < 4294967296 := by
  have : (2 : Nat) ^ k ≤ 2 ^ 32 := Nat.pow_le_pow_right (by decide) hk
  omega
section
variable {L : ya} {w u w1 inn : List Int} {ls : Int → Int → List Int} {nb pg : Int}
theorem Lst.congr {h : Int} {xs : List Int} (l : Lst nb pg w h xs) (hnb : 1 ≤ nb) (hpg : 0 ≤ pg) (hh : nb + 2 * pg ≤ h ∧ h < nb + 2 * pg + 62) (e : ∀ b, nb ≤ b → b < nb + 2 * pg + 62 → wd u b = wd w b) : Lst nb pg u h xs := by
  refine ⟨(e h (by omega) hh.2).trans l.head, l.inn, fun i hi => ?_, fun i hi => ?_, l.nd⟩
  · have := l.inn _ (getD_mem hi)
    rw [e _ (by omega) (by omega)]; exact l.next i hi
  · have := l.inn _ (getD_mem hi)
    rw [e _ (by omega) (by omega)]; exact l.prev i hi
theorem RepW.congr (r : RepW nb pg w inn ls) (hnb : 1 ≤ nb) (hpg : 0 ≤ pg) (e : ∀ b, nb ≤ b → b < nb + 2 * pg + 62 → wd u b = wd w b) : RepW nb pg u inn ls :=
  ⟨fun c f h => (r.lst c f h).congr hnb hpg (hd_in h) e, r.len, r.mem, r.some, fun p h0 h1 hz => by
    have := r.none p h0 h1 hz
    rw [e _ (by omega) (by omega), e _ (by omega) (by omega)]; exact this⟩
theorem RepW.unlinked {c f p : Int} (r : RepW nb pg w inn ls) (g : GeoA nb pg w.length) (h : isL c f) (hp : p ∈ ls c f) :
    ∃ ls', RepW nb pg (unlinkW nb pg w (hdI (nb + 2 * pg) c f) p) (inn.set p.toNat 0) ls' ∧ (unlinkW nb pg w (hdI (nb + 2 * pg) c f) p).length = w.length ∧ ∀ b, 0 ≤ b → (b < nb ∨ nb + 2 * pg + 62 ≤ b) → wd (unlinkW nb pg w (hdI (nb + 2 * pg) c f) p) b = wd w b := by
  obtain ⟨i, hi, e⟩ := mem_getD hp
  obtain ⟨n1, n2, z1, z2⟩ := unlink_ok (g.geo h) (r.lst _ _ h) hi
  have hr := r.unlink g h hi n1 n2 z1 z2
  rw [e] at hr n2
  have hb := hd_in (hb := nb + 2 * pg) h
  have g1 := g.base; have g2 := g.pages
  exact ⟨_, hr, n2.len, fun b hb0 hb1 => n2.off b hb0 (by omega) (fun y hy => by have := (r.lst c f h).inn y hy; omega)⟩
theorem RepW.linked {c f p : Int} (r : RepW nb pg w inn ls) (g : GeoA nb pg w.length) (h : isL c f) (hp : 0 ≤ p ∧ p < pg) (h0 : wd inn p = 0) :
    ∃ ls', RepW nb pg (linkW nb pg w (hdI (nb + 2 * pg) c f) p) (inn.set p.toNat (100 * c + f)) ls' ∧ (linkW nb pg w (hdI (nb + 2 * pg) c f) p).length = w.length ∧ ∀ b, 0 ≤ b → (b < nb ∨ nb + 2 * pg + 62 ≤ b) → wd (linkW nb pg w (hdI (nb + 2 * pg) c f) p) b = wd w b := by
  have hn : p ∉ ls c f := fun m => by
    have := ((r.mem _ _ h _).1 m).2
    have := h.1; have := h.2; omega
  obtain ⟨n1, n2⟩ := link_ok (g.geo h) (r.lst _ _ h) hp hn
  have hb := hd_in (hb := nb + 2 * pg) h
  have g1 := g.base; have g2 := g.pages
  exact ⟨_, r.link g h hp h0 n1 n2, n2.len, fun b hb0 hb1 => n2.off b hb0 (by omega) (fun y hy => by
    rcases List.mem_cons.1 hy with e | hy
    · omega
    · have := (r.lst c f h).inn y hy; omega)⟩
def unl (L : ya) (ls : Int → Int → List Int) (w : List Int) (p c n : Int) : List Int :=
  if isL c n ∧ p ∈ ls c n then unlinkW L.at_4 L.c.Pages w (hdI (L.at_4 + 2 * L.c.Pages) c n) p else w
def turnW (L : ya) (w : List Int) (p c b n : Int) : List Int :=
  if n = slotsC c then setP L.at_1 L.c.Pages w p 0 0
  else if isL c n then linkW L.at_4 L.c.Pages ((w.set (L.at_3 + p).toNat b).set (L.at_2 + p).toNat n) (hdI (L.at_4 + 2 * L.c.Pages) c n) p
  else (w.set (L.at_3 + p).toNat b).set (L.at_2 + p).toNat n
theorem GeoL {L : ya} (h : LayOK L) {n : Nat} (hn : L.at_11 ≤ n) : GeoA L.at_4 L.c.Pages n := by
  have := h.geo11; have := h.pages
  exact ⟨by omega, h.pages, by omega⟩
theorem GeoKL {L : ya} (h : LayOK L) {w : List Int} (hn : L.at_11 ≤ (w.length : Int)) : GeoK L.at_1 L.c.Pages w.length :=
  VOK.geoK (nw := w.length) ⟨h, rfl, hn⟩
theorem unl_rep (h : LayOK L) (hn : L.at_11 ≤ (w.length : Int)) (r : RepW L.at_4 L.c.Pages w inn ls) {p c n : Int} (hp : 0 ≤ p ∧ p < L.c.Pages) (hc : 0 ≤ c ∧ c < 5) (hk : 0 ≤ n ∧ n ≤ slotsC c) (hl : wd inn p = if n = 0 then 0 else 100 * c + n) :
    ∃ ls', RepW L.at_4 L.c.Pages (unl L ls w p c n) (inn.set p.toNat 0) ls' ∧ (unl L ls w p c n).length = w.length ∧ ∀ b, 0 ≤ b → (b < L.at_4 ∨ L.at_4 + 2 * L.c.Pages + 62 ≤ b) → wd (unl L ls w p c n) b = wd w b := by
  unfold unl
  by_cases z : n = 0
  · rw [if_neg (fun x => by have := x.1.2; omega)]
    rw [if_pos z] at hl
    refine ⟨ls, ?_, rfl, fun _ _ _ => rfl⟩
    have e : inn.set p.toNat 0 = inn := wd_ext (by simp) (fun b hb => by
      have := r.len
      rw [wd_set (by omega) hb]
      split
      · rename_i e; rw [e, hl]
      · rfl)
    rw [e]; exact r
  · rw [if_neg z] at hl
    have hL : isL c n := ⟨hc, by omega, hk.2⟩
    have hm : p ∈ ls c n := (r.mem c n hL p).2 ⟨hp, hl⟩
    rw [if_pos ⟨hL, hm⟩]
    exact r.unlinked (GeoL h hn) hL hm
theorem linkW_len' (nb pg : Int) (w : List Int) (h p : Int) : (linkW nb pg w h p).length = w.length := by
  unfold linkW
  by_cases e : wd w h = 0 <;> simp [e]
theorem turnW_len (L : ya) (w : List Int) (p c b n : Int) : (turnW L w p c b n).length = w.length := by
  unfold turnW
  split
  · exact setP_len ..
  · split
    · rw [linkW_len']; simp
    · simp
theorem turn_inv {ls1 : Int → Int → List Int} (h : LayOK L) (hn : L.at_11 ≤ (w.length : Int)) {p c n : Int} {m : Nat} (hp : 0 ≤ p ∧ p < L.c.Pages) (i : ∀ q, 0 ≤ q → q < L.c.Pages → q ≠ p → PgOK L w inn q)
    (r1 : RepW L.at_4 L.c.Pages w1 (inn.set p.toNat 0) ls1) (hlen : w1.length = w.length) (hoff : ∀ b, 0 ≤ b → (b < L.at_4 ∨ L.at_4 + 2 * L.c.Pages + 62 ≤ b) → wd w1 b = wd w b) (hc : 0 ≤ c ∧ c < 5) (hk : kw L w p = c + 1)
    (hm : m < 2 ^ (slotsC c).toNat) (hw : n = slotsC c - popN m (slotsC c).toNat) : ∃ inn' ls', Inv11 L (turnW L w1 p c m n) inn' ls' := by
  have g := h.geo11; have hpg := h.pages
  have hil : (inn.length : Int) = L.c.Pages := by have := r1.len; simpa using this
  obtain ⟨s1, s2, s3⟩ := slots_pow hc
  have hpop := popN_le m (slotsC c).toNat
  have hinn : ∀ x q, 0 ≤ q → wd ((inn.set p.toNat 0).set p.toNat x) q = if q = p then x else wd inn q := fun x q hq => by
    rw [wd_set (by rw [List.length_set]; omega) hq, wd_set (by omega) hq]; split <;> rfl
  have hinn0 : ∀ q, 0 ≤ q → wd (inn.set p.toNat 0) q = if q = p then 0 else wd inn q := fun q hq => wd_set (by omega) hq
  have other : ∀ (v inn' : List Int), (∀ q, 0 ≤ q → q < L.c.Pages → q ≠ p → kw L v q = kw L w q ∧ cw L v q = cw L w q ∧ bw L v q = bw L w q ∧ wd inn' q = wd inn q) → ∀ q, 0 ≤ q → q < L.c.Pages → q ≠ p → PgOK L v inn' q := by
    intro v inn' e q h0 h1 hq
    obtain ⟨e1, e2, e3, e4⟩ := e q h0 h1 hq
    rcases i q h0 h1 hq with f | ⟨c', m', f⟩
    · exact .inl ⟨e1.trans f.kind, e3.trans f.bits, e2.trans f.left, e4.trans f.linked⟩
    · exact .inr ⟨c', m', f.cls, e1.trans f.kind, e3.trans f.bits, f.lt, e2.trans f.left, by rw [e2]; exact f.used, by rw [e4, e2]; exact f.linked⟩
  unfold turnW
  by_cases hs : n = slotsC c
  · rw [if_pos hs]
    have gk : GeoK L.at_1 L.c.Pages w1.length := GeoKL h (by omega)
    have hw1 : ∀ b, 0 ≤ b → wd (setP L.at_1 L.c.Pages w1 p 0 0) b = if b = L.at_1 + p ∨ b = L.at_1 + L.c.Pages + p ∨ b = L.at_1 + 2 * L.c.Pages + p then 0 else wd w1 b := fun b hb => by
      rw [setP_wd gk hp hb]
      repeat' split
      all_goals first | rfl | omega
    refine ⟨inn.set p.toNat 0, ls1, r1.congr (by omega) (by omega) (fun b h0 h1 => by rw [hw1 b (by omega), if_neg (by omega)]), fun q h0 h1 => ?_⟩
    by_cases e : q = p
    · subst e
      exact .inl ⟨by unfold kw; rw [hw1 _ (by omega), if_pos (.inl rfl)], by unfold bw; rw [hw1 _ (by omega), if_pos (.inr (.inr (by omega)))], by unfold cw; rw [hw1 _ (by omega), if_pos (.inr (.inl (by omega)))], by rw [hinn0 _ h0, if_pos rfl]⟩
    · refine other _ _ (fun q h0 h1 e => ⟨?_, ?_, ?_, by rw [hinn0 q h0, if_neg e]⟩) q h0 h1 e
      · unfold kw; rw [hw1 _ (by omega), if_neg (by omega), hoff _ (by omega) (.inl (by omega))]
      · unfold cw; rw [hw1 _ (by omega), if_neg (by omega), hoff _ (by omega) (.inl (by omega))]
      · unfold bw; rw [hw1 _ (by omega), if_neg (by omega), hoff _ (by omega) (.inl (by omega))]
  · rw [if_neg hs]
    generalize hv : (w1.set (L.at_3 + p).toNat (m : Int)).set (L.at_2 + p).toNat n = v
    have hvl : v.length = w.length := by rw [← hv]; simp [hlen]
    have hvw : ∀ b, 0 ≤ b → wd v b = if b = L.at_2 + p then n else if b = L.at_3 + p then (m : Int) else wd w1 b := fun b hb => by
      rw [← hv, wd_set (by rw [List.length_set]; omega) hb, wd_set (by omega) hb]
    have rv : RepW L.at_4 L.c.Pages v (inn.set p.toNat 0) ls1 := r1.congr (by omega) (by omega) (fun b h0 h1 => by rw [hvw b (by omega), if_neg (by omega), if_neg (by omega)])
    have fin : ∀ (x : List Int) (inn' : List Int) (ls' : Int → Int → List Int), RepW L.at_4 L.c.Pages x inn' ls' → (∀ b, 0 ≤ b → (b < L.at_4 ∨ L.at_4 + 2 * L.c.Pages + 62 ≤ b) → wd x b = wd v b) → (∀ q, 0 ≤ q → wd inn' q = if q = p then (if n = 0 then 0 else 100 * c + n) else wd inn q) → ∃ inn' ls', Inv11 L x inn' ls' := by
      intro x inn' ls' rx hx hi
      refine ⟨inn', ls', rx, fun q h0 h1 => ?_⟩
      by_cases e : q = p
      · subst e
        have e1 : cw L x q = n := by unfold cw; rw [hx _ (by omega) (.inl (by omega)), hvw _ (by omega), if_pos rfl]
        refine .inr ⟨c, m, hc, ?_, ?_, hm, by rw [e1]; exact hw, by rw [e1]; omega, by rw [hi q h0, if_pos rfl, e1]⟩
        · unfold kw; rw [hx _ (by omega) (.inl (by omega)), hvw _ (by omega), if_neg (by omega), if_neg (by omega), hoff _ (by omega) (.inl (by omega))]; exact hk
        · unfold bw; rw [hx _ (by omega) (.inl (by omega)), hvw _ (by omega), if_neg (by omega), if_pos rfl]
      · refine other _ _ (fun q h0 h1 e => ⟨?_, ?_, ?_, by rw [hi q h0, if_neg e]⟩) q h0 h1 e
        · unfold kw; rw [hx _ (by omega) (.inl (by omega)), hvw _ (by omega), if_neg (by omega), if_neg (by omega), hoff _ (by omega) (.inl (by omega))]
        · unfold cw; rw [hx _ (by omega) (.inl (by omega)), hvw _ (by omega), if_neg (by omega), if_neg (by omega), hoff _ (by omega) (.inl (by omega))]
        · unfold bw; rw [hx _ (by omega) (.inl (by omega)), hvw _ (by omega), if_neg (by omega), if_neg (by omega), hoff _ (by omega) (.inl (by omega))]
    by_cases hL : isL c n
    · rw [if_pos hL]
      obtain ⟨ls', a1, _, a3⟩ := rv.linked (GeoL h (by omega)) hL hp (by rw [hinn0 p hp.1, if_pos rfl])
      have := hL.2
      exact fin _ _ _ a1 a3 (fun q hq => by rw [hinn _ q hq, if_neg (show ¬ n = 0 by omega)])
    · rw [if_neg hL]
      have hz : n = 0 := by
        refine Classical.byContradiction fun hz => hL ⟨hc, ?_, ?_⟩ <;> omega
      exact fin _ _ _ rv (fun _ _ _ => rfl) (fun q hq => by rw [hinn0 q hq, if_pos hz])
end
end Go.Rx
end

section
namespace Go.Rx
def exRh (cfg : Cfg) (cx : Cx) : Code → Env → Heap → (Env → Heap → Prop) → Prop
  | .ret, env, H, K => K env H
  | .skip, env, H, K => K env H
  | .region id ops draw, env, H, K => ex cfg cx (.region id ops draw) env H (fun _ env H => K env H)
  | .seq a b, env, H, K => match a with
    | .region id ops draw => ex cfg cx (.region id ops draw) env H (fun _ env H => exRh cfg cx b env H K)
    | _ => False
  | _, _, _, _ => False
def exDh (cfg : Cfg) (cx : Cx) (sd : FuncId → Option Spec) (fin : Env → Heap → Prop) (ops : List Oper) (c1 : Code) (env : Env) (H : Heap) : Prop :=
  match ops[ops.length - 1]? with
  | some o => match o.guard with
    | none => match o.op with
      | .defer c => match c.callee with
        | .value f => bif c.args.toList.isEmpty then exOps cfg cx.nt none qm0 (fun _ => true) none ops (List.range (ops.length - 1)) env H fun env H => match ev env f with
          | .fn g caps => match sd g with
            | some s => exRh cfg cx c1 (updO cx.nt env o.dst (.ext undef)) H fun env H => callC s caps H none fun _ H => fin env H
            | none => False
          | _ => False
          else False
        | _ => False
      | _ => False
    | _ => False
  | none => False
def exSH (cfg : Cfg) (cx : Cx) (sd : FuncId → Option Spec) (fin : Env → Heap → Prop) : Code → Env → Heap → Prop
  | .seq a b, env, H => bif isDefR a then exDh cfg cx sd fin (opsOf a) b env H else
      ex cfg cx a env H fun e env H => match e with
        | .normal => exSH cfg cx sd fin b env H
        | .ret => fin env H
        | .exit _ => False
  | _, _, _ => False
def exFH (cfg : Cfg) (sd : FuncId → Option Spec) (fn : Func) (args : List V) (H : Heap) (K : V → Heap → Prop) : Prop :=
  match fn.body with
  | some c => exSH cfg (cxOf fn args H) sd (retK cfg fn H.length K .normal) c (argEnv args) H
  | none => False
variable {cfg : Cfg} {ρ : List Value} {F : Nat → List Nat} {H : Heap} {w : World}
theorem exReg_sound (ok : CfgOK cfg) (hsig : ∀ g s, cfg.sigs g = some s → SpecOK cfg.P cfg.elT g s) {cx : Cx} {ds : List Deferred} (id : Nat) (ops : Array Oper) (draw : Bool) (K : Env → Heap → Prop) (env : Env) (H : Heap) (ρ : List Value) (F : Nat → List Nat) (a : Act) (w : World) (h : ex cfg cx (.region id ops draw) env H (fun _ env H => K env H)) (hs : St cfg cx.nt ds ρ F env H a w) :
    (Code.region id ops draw).wp cfg.P (fun e a' w' => e = .normal ∧ ∃ ρ' F' env' H', St cfg cx.nt ds ρ' F' env' H' a' w' ∧ (Le ρ ρ' ∧ Fr H F w H' F' w') ∧ K env' H') a w := by
  cases draw with
  | false =>
    have h : exOps cfg cx.nt none qm0 (fun _ => true) none ops.toList (List.range ops.toList.length) env H K := h
    rw [Array.length_toList] at h
    exact wp_region (exOps_wpOps ok hsig _ ρ F H w env a h hs (fun ρ' F' H' w' env' a' h1 h2 h3 => ⟨rfl, ρ', F', env', H', h2, ⟨h3.le, h3.fr⟩, h1⟩))
  | true =>
    have hd := hs.sat.drew
    have hst : St cfg cx.nt ds ρ F env H a w.drew := ⟨hs.env, hs.size, hs.defers, hd⟩
    have h : (match cfg.planT id with
     | some (p, kd) => bif planOkT ops p && lateOk ops (kdQ kd).late then exOpsT cfg cx.nt (some (lkOf (kdB kd))) (kdQ kd) (early (kdQ kd) ops.toList) (some H) ops.toList p env H K else False
     | none => match cfg.plan id with
      | some (plan, kd) => bif planOk ops plan && lateOk ops (kdQ kd).late then exOps cfg cx.nt (some (lkOf (kdB kd))) (kdQ kd) (early (kdQ kd) ops.toList) (some H) ops.toList plan env H K else False
      | none => False) := h
    split at h
    · rename_i p kd hpl
      have hc := cond_elim h
      have hc1 := hc.1
      simp only [planOkT, Bool.and_eq_true] at hc1
      obtain ⟨hc1, hlt⟩ := hc1
      obtain ⟨⟨hsel, hle⟩, hgo⟩ := hc1
      refine wp_region_any ok.mixed (wpAny_of_G (S := SD (kdQ kd) ops (lkOf (kdB kd)) H F w.drew) _ _ _ _ ?_)
      exact wpAnyG_le (Nat.le_of_ble_eq_true hle) (exOps_tree (nt := cx.nt) (f := lkOf (kdB kd)) (q := kdQ kd) (ops := ops) ok hlt hsig (lkOK_lkOf (kdB kd)) hsel (Q := fun e a' w' => e = .normal ∧ ∃ ρ' F' env' H', St cfg cx.nt ds ρ' F' env' H' a' w' ∧ (Le ρ ρ' ∧ Fr H F w H' F' w') ∧ K env' H') (fun _ _ _ h => by have h := h.1; simp at h; try cases h) hd
        (fun ρ' F' H' w' env' a' h1 h2 h3 => ⟨rfl, ρ', F', env', H', h2, ⟨h3.le, Fr.drew.trans h3.fr⟩, h1⟩) p false (Array.replicate ops.size false) ρ F H w.drew env a hgo (by simp) (closed_start ops) hc.2 hst (.refl hd) (fun _ => Kept.refl))
    · split at h
      rotate_left
      · exact h.elim
      rename_i plan kd hpl
      have hc := cond_elim h
      have hc1 := hc.1
      simp only [planOk, Bool.and_eq_true] at hc1
      obtain ⟨hc1, hlt⟩ := hc1
      obtain ⟨⟨hsel, hlen⟩, hgo⟩ := hc1
      have hlen : plan.length = ops.size := by simpa using hlen
      refine wp_region_any ok.mixed (wpAny_of_G (S := SD (kdQ kd) ops (lkOf (kdB kd)) H F w.drew) _ _ _ _ ?_)
      rw [← hlen]
      have := exOps_drawn (nt := cx.nt) (f := lkOf (kdB kd)) (q := kdQ kd) (ops := ops) ok hlt hsig (lkOK_lkOf (kdB kd)) hsel (Q := fun e a' w' => e = .normal ∧ ∃ ρ' F' env' H', St cfg cx.nt ds ρ' F' env' H' a' w' ∧ (Le ρ ρ' ∧ Fr H F w H' F' w') ∧ K env' H') (fun _ _ _ h => by have h := h.1; simp at h; try cases h) hd plan (Array.replicate ops.size false) ρ F H w.drew env a hgo (by simp) (closed_start ops) hc.2 hst (.refl hd) (fun _ => Kept.refl)
        (fun ρ' F' H' w' env' a' h1 h2 h3 => ⟨rfl, ρ', F', env', H', h2, ⟨h3.le, Fr.drew.trans h3.fr⟩, h1⟩)
      rw [← hlen] at this
      exact this
theorem exRh_sound (ok : CfgOK cfg) (hsig : ∀ g s, cfg.sigs g = some s → SpecOK cfg.P cfg.elT g s) {cx : Cx} {ds : List Deferred} : ∀ (c : Code) (K : Env → Heap → Prop) (env : Env) (H : Heap) (ρ : List Value) (F : Nat → List Nat) (a : Act) (w : World),
    exRh cfg cx c env H K → St cfg cx.nt ds ρ F env H a w → c.wp cfg.P (fun e a' w' => (e = .normal ∨ e = .ret) ∧ ∃ ρ' F' env' H', St cfg cx.nt ds ρ' F' env' H' a' w' ∧ (Le ρ ρ' ∧ Fr H F w H' F' w') ∧ K env' H') a w := by
  intro c
  induction c with
  | ret => intro K env H ρ F a w h hs; exact wp_ret ⟨.inr rfl, ρ, F, env, H, hs, ⟨Le.refl _, .refl⟩, h⟩
  | skip => intro K env H ρ F a w h hs; exact wp_skip ⟨.inl rfl, ρ, F, env, H, hs, ⟨Le.refl _, .refl⟩, h⟩
  | region id ops draw =>
    intro K env H ρ F a w h hs
    refine wp_mono (exReg_sound ok hsig id ops draw K env H ρ F a w h hs) (fun e a' w' hq => ?_)
    exact ⟨.inl hq.1, hq.2⟩
  | seq x y ihx ihy =>
    intro K env H ρ F a w h hs
    cases x with
    | region id ops draw =>
      refine wp_seq (wp_mono (exReg_sound ok hsig id ops draw _ env H ρ F a w h hs) (fun e a' w' hq => ?_))
      obtain ⟨rfl, ρ', F', env', H', h2, h3, h1⟩ := hq
      refine wp_mono (ihy K env' H' ρ' F' a' w' h1 h2) (fun e a2 w2 hq => ?_)
      obtain ⟨q1, ρ2, F2, env2, H2, q2, q3, q4⟩ := hq
      exact ⟨q1, ρ2, F2, env2, H2, q2, ⟨h3.1.trans q3.1, h3.2.trans q3.2⟩, q4⟩
    | _ => exact h.elim
  | _ => intro K env H ρ F a w h hs; exact h.elim
theorem exSH_sound (ok : CfgOK cfg) (hsig : ∀ g s, cfg.sigs g = some s → SpecOK cfg.P cfg.elT g s) {sd : FuncId → Option Spec} (hsd : ∀ g s, sd g = some s → SpecDOK cfg.P cfg.elT g s)
    {fn : Func} {args : List V} {H0 : Heap} {K : V → Heap → Prop} {ρ0 : List Value} {F0 : Nat → List Nat} {w0 : World} (hsat0 : Sat cfg.elT ρ0 F0 H0 w0) :
    ∀ (c : Code) (env : Env) (H : Heap) (ρ : List Value) (F : Nat → List Nat) (a : Act) (w : World), exSH cfg (cxOf fn args H0) sd (retK cfg fn H0.length K .normal) c env H → St0 cfg (cxOf fn args H0) [] ρ0 F0 H0 w0 ρ F env H a w →
      c.wp cfg.P (bodyPostD cfg.P fn fun e w' => ∃ v x ρ' F' H', e = .returned x ∧ K v H' ∧ Rel ρ' v x ∧ Le ρ0 ρ' ∧ Sat cfg.elT ρ' F' H' w' ∧ Fr H0 F0 w0 H' F' w') a w := by
  have hp : (cxOf fn args H0).pins ≤ ρ0.length := by rw [hsat0.len]; exact Nat.le_refl _
  have fin0 : ∀ (ρ : List Value) (F : Nat → List Nat) (env : Env) (H : Heap) (a : Act) (w : World) (ds : List Deferred), St0 cfg (cxOf fn args H0) ds ρ0 F0 H0 w0 ρ F env H a w → retK cfg fn H0.length K .normal env H →
      Leaves cfg.P fn a.tmps (fun e w' => ∃ v x ρ' F' H', e = .returned x ∧ K v H' ∧ Rel ρ' v x ∧ Le ρ0 ρ' ∧ Sat cfg.elT ρ' F' H' w' ∧ Fr H0 F0 w0 H' F' w') [] .returning w := by
    intro ρ F env H a w ds hs hr
    obtain ⟨v, hv, hrest⟩ := ret_sound hsat0 hs hr
    exact ⟨v, hv, hrest⟩
  intro c
  induction c with
  | seq x y ihx ihy =>
    intro env H ρ F a w h hs
    simp only [exSH] at h
    cases hd : isDefR x with
    | false =>
      rw [hd] at h
      simp only [cond_false] at h
      refine wp_seq (wp_mono (y6y ok hsig hp x _ env H ρ F a w h hs) (fun e a' w' hq => ?_))
      cases e with
      | normal => obtain ⟨ρ', F', env', H', h1, h2⟩ := hq; exact ihy env' H' ρ' F' a' w' h2 h1
      | ret =>
        obtain ⟨ρ', F', env', H', h1, h2⟩ := hq
        show Leaves cfg.P fn a'.tmps _ a'.defers .returning w'
        rw [h1.st.defers]
        exact fin0 ρ' F' env' H' a' w' [] h1 h2
      | exit i => obtain ⟨ρ', F', env', H', h1, h2⟩ := hq; exact h2.elim
      | goto l => exact hq.elim
      | panic ch => exact hq.elim
      | outgrown => exact hq.elim
    | true =>
      rw [hd] at h
      simp only [cond_true] at h
      cases x with
      | region id ops draw =>
        cases draw with
        | true => cases hd
        | false =>
          simp only [opsOf, exDh] at h
          split at h
          · rename_i o ho
            split at h
            · rename_i hg
              split at h
              · rename_i c hop
                obtain ⟨callee, cargs, cts⟩ := c
                split at h
                · rename_i f hcal
                  simp only at hcal
                  subst hcal
                  have hcd := cond_elim h
                  have hargs := list0 hcd.1
                  simp only at hargs
                  subst hargs
                  have h := hcd.2
                  have hsz : ops.toList.length = (ops.size - 1) + 1 := by
                    rw [Array.length_toList]
                    have := (List.getElem?_eq_some_iff.1 ho).1
                    rw [Array.length_toList] at this
                    omega
                  have ho' : ops[ops.size - 1]? = some o := by rw [← Array.getElem?_toList, ← Array.length_toList]; exact ho
                  rw [Array.length_toList] at h
                  refine wp_seq (wp_region ?_)
                  rw [show ops.size = (ops.size - 1) + 1 by rw [Array.length_toList] at hsz; exact hsz, List.range_succ]
                  have pre : ∀ (Q : Exit → Act → World → Prop) (l : List Nat) (j : Nat) (a : Act) (w : World), wpOps cfg.P ops (fun e a w => match e with | .normal => wpOps cfg.P ops Q [j] a w | e => Q e a w) l a w → (¬ ∃ a w, Q .outgrown a w) → wpOps cfg.P ops Q (l ++ [j]) a w := by
                    intro Q l j
                    induction l with
                    | nil => intro a w h _; exact h
                    | cons i r ih =>
                      intro a w h hno
                      rw [List.cons_append, wpOps_cons]
                      rw [wpOps_cons] at h
                      unfold wpOp at h ⊢
                      split
                      · rename_i hn; rw [hn] at h; exact ih _ _ h hno
                      · rename_i oi hoi
                        rw [hoi] at h
                        simp only at h ⊢
                        split
                        · rename_i hwt
                          rw [if_pos hwt] at h
                          refine .inl ?_
                          have h := h.resolve_right (fun ⟨_, a', w', hq⟩ => hno ⟨a', w', hq⟩)
                          unfold Oper.wp at h ⊢
                          generalize (execOp a.eval oi).run cfg.P w = r at h ⊢
                          cases r with
                          | ok n w' =>
                            cases n <;> simp only [Oper.upon] at h ⊢
                            all_goals first
                              | exact h.elim
                              | exact ih _ _ h hno
                              | exact Calls.mono h (fun e w'' he => by cases e <;> first | exact ih _ _ he hno | exact he | (obtain ⟨a', w₀, hq⟩ := he; exact ⟨a', w₀, hq⟩))
                              | exact Rows.mono h (fun _ _ he => ih _ _ he hno)
                          | halt x w' => cases x <;> simp only [Oper.upon] at h ⊢ <;> exact h
                        · rename_i hwt
                          rw [if_neg hwt] at h
                          exact ih _ _ h hno
                  refine pre _ _ _ _ _ ?_ ?_
                  rotate_left
                  · rintro ⟨a', w', v, x, ρ', F', H', he, _⟩
                    cases he
                  refine exOps_wpOps (ds := []) ok hsig _ ρ F H w env a h hs.st (fun ρ1 F1 H1 w1 env1 a1 h1 h2 h3 => ?_)
                  simp only [wpOps, ho']
                  have hwt : Region.wanted o (yielded ops a1.tmps) = true := by unfold Region.wanted; rw [hg]
                  rw [if_pos hwt]
                  refine .inl ?_
                  split at h1
                  · rename_i g caps hgf
                    split at h1
                    · rename_i s hsg
                      have hfd := REnv.ev h2.env f
                      rw [hgf] at hfd
                      have hfd := hfd.den (by simp)
                      simp only [V.den] at hfd
                      split at hfd
                      · rename_i cs hcs
                        injection hfd with hfd
                        obtain ⟨⟨fg, f1, f2, f3⟩, hspec⟩ := hsd g s hsg
                        have hrun : (execOp a1.eval o).run cfg.P w1 = .ok (.defer { target := .fn (.func g) cs.toArray, args := #[] }) w1 := by
                          obtain ⟨dst, op, type, pos, after, guard⟩ := o
                          simp only at hop
                          subst hop
                          simp only [execOp, resolve, ← hfd, Deferred.ofValue, Sem.run_bind, Sem.run_pure, Result.andThen_ok]
                          simp
                        unfold Oper.wp
                        rw [hrun, Oper.upon_defer]
                        have hst2 : St cfg (cxOf fn args H0).nt [{ target := .fn (.func g) cs.toArray, args := #[] }] ρ1 F1 (updO (cxOf fn args H0).nt env1 o.dst (.ext undef)) H1 (({ a1 with defers := { target := .fn (.func g) cs.toArray, args := #[] } :: a1.defers } : Act).put o.dst undef) w1 := by
                          have := (h2.put (lk := none) (.refl h2.sat) (v := .ext undef) (x := undef) (.inr rfl) o.dst)
                          refine ⟨?_, ?_, ?_, h2.sat⟩
                          · have e := this.env
                            cases hdst : o.dst with
                            | none => rw [hdst] at e; exact e
                            | some d => rw [hdst] at e; exact e
                          · have e := this.size
                            cases hdst : o.dst with
                            | none => rw [hdst] at e; exact e
                            | some d => rw [hdst] at e; exact e
                          · cases hdst : o.dst with
                            | none => show _ :: a1.defers = _; rw [h2.defers]
                            | some d => show _ :: a1.defers = _; rw [h2.defers]
                        show (y.wp cfg.P _ _ w1)
                        refine wp_mono (exRh_sound ok hsig y _ _ H1 ρ1 F1 _ w1 h1 hst2) (fun e a2 w2 hq => ?_)
                        obtain ⟨q1, ρ2, F2, env2, H2, q2, q3, q4⟩ := hq
                        have hcs2 : denL ρ2 caps = some cs := denL_le q3.1 _ _ hcs
                        have hend : Leaves cfg.P fn a2.tmps (fun e w' => ∃ v x ρ' F' H', e = .returned x ∧ K v H' ∧ Rel ρ' v x ∧ Le ρ0 ρ' ∧ Sat cfg.elT ρ' F' H' w' ∧ Fr H0 F0 w0 H' F' w') a2.defers .returning w2 := by
                          rw [q2.defers]
                          refine leaves_cons (by simp) (f := g) (args := cs.toArray) ?_ ?_
                          · simp only [invoke, run_callFunc f1 f2 f3]
                            simp
                          · have hcall := callC_gen (cfg := cfg) (lk := none) (fun _ h => by cases h) (s := s) (vals := cs) (w := w2) (fun R => CallsD cfg.P g cs.toArray .returning w2 fun e u' w' => u' = .returning ∧ R e w')
                              (fun R R' hr hm => hr.mono fun e u' w' ⟨h1, h2⟩ => ⟨h1, hm e w' h2⟩) (fun args H K htr ρ F hd hs => hspec args H K htr ρ F w2 cs hd hs) q4 hcs2 q2.sat
                            refine hcall.mono ?_
                            rintro e u' w' ⟨rfl, v, x, ρ3, F3, H3, rfl, g1, g2, g3⟩
                            show Leaves cfg.P fn a2.tmps _ [] .returning w'
                            have hst3 : St cfg (cxOf fn args H0).nt [{ target := .fn (.func g) cs.toArray, args := #[] }] ρ3 F3 env2 H3 a2 w' := ⟨fun t => (q2.env t).le g3.le, q2.size, q2.defers, g3.sat⟩
                            refine fin0 ρ3 F3 env2 H3 a2 w' _ ⟨hst3, ((hs.fr.trans h3.fr).trans q3.2).trans g3.fr, fun i hi => ?_⟩ g1
                            have hpi := hs.pins i hi
                            have hil : i < ρ0.length := by omega
                            rw [List.getElem?_eq_getElem hil] at hpi ⊢
                            exact g3.le _ _ (q3.1 _ _ (h3.le _ _ hpi))
                        rcases q1 with rfl | rfl
                        · exact hend
                        · exact hend
                      · cases hfd
                    · exact h1.elim
                  · exact h1.elim
                · exact h.elim
              · exact h.elim
            · exact h.elim
          · exact h.elim
      | _ => cases hd
  | _ => intro env H ρ F a w h hs; exact h.elim
theorem spec_of_exFH (ok : CfgOK cfg) (hsig : ∀ g s, cfg.sigs g = some s → SpecOK cfg.P cfg.elT g s) {sd : FuncId → Option Spec} (hsd : ∀ g s, sd g = some s → SpecDOK cfg.P cfg.elT g s)
    {g : FuncId} {fn : Func} {s : Spec} (hg : cfg.P.funcs[g]? = some fn) (hname : (fn.name == "runtime.NumGoroutine") = false) (hb : fn.body.isNone = false)
    (h : ∀ (args : List V) (H : Heap) (K : V → Heap → Prop), s.tr args H K → exFH cfg sd fn args H K) : SpecOK cfg.P cfg.elT g s := by
  refine ⟨⟨fn, hg, hname, hb⟩, fun args H K htr ρ F w vals hden hsat => ?_⟩
  have hex := h args H K htr
  cases hc : fn.body with
  | none => rw [hc] at hb; cases hb
  | some c =>
    unfold exFH at hex
    rw [hc] at hex
    have hlen := denL_len hden
    have hst : St cfg (cxOf fn args H).nt [] ρ F (argEnv args) H { tmps := vals.toArray ++ Array.replicate (fn.ntmps - vals.toArray.size) undef, defers := [] } w :=
      ⟨argEnv_rel hden _, by simp [cxOf, hlen], rfl, hsat⟩
    exact calls_of_wp_defers hg hc (exSH_sound ok hsig hsd hsat c _ H ρ F _ w hex ⟨hst, Fr.refl, fun _ _ => rfl⟩)
def aRest (l : List V) (k : List V → Prop) : Prop := k l
def sdC (g : FuncId) (s : Spec) : FuncId → Option Spec := fun g' => bif Nat.beq g' g then some s else none
theorem sdC_ok {P : Program} {elT : ET} {g : FuncId} {s : Spec} (h : SpecDOK P elT g s) : ∀ g' s', sdC g s g' = some s' → SpecDOK P elT g' s' := by
  intro g' s' e
  unfold sdC at e
  cases hb : Nat.beq g' g with
  | false => rw [hb] at e; cases e
  | true =>
    rw [hb] at e
    obtain rfl := Nat.eq_of_beq_eq_true hb
    injection e with e
    subst e
    exact h
end Go.Rx
end

noncomputable section
namespace Go.Rx
open Go.Proofs
set_option maxRecDepth 100000
set_option maxHeartbeats 4000000
theorem yk8 {cs : List V} {k : ya → List V → Prop} (h : yy (List.take 23 cs) fun x => aRest (List.drop 23 cs) fun r => k x r) : ∃ x r, cs = yd x ++ r ∧ k x r := by
  obtain ⟨x, e, h⟩ := y7c h
  exact ⟨x, _, by rw [← e, List.take_append_drop], h⟩
instance (cs : List V) (k : ya → List V → Prop) : Des (yy (List.take 23 cs) fun x => aRest (List.drop 23 cs) fun r => k x r) (∃ x r, cs = yd x ++ r ∧ k x r) := ⟨yk8⟩
def ycf (m_ : Y7) (args : List V) (H : Heap) (K : V → Heap → Prop) : Prop :=
  aC args fun a0 r => aN r <| aAgg a0 fun c0 => aC c0 fun a0_0 r => aPtr 0 a0_0 <| yy (List.take 23 r) fun x_l => aRest (List.drop 23 r) fun r => aC r fun a0_24 r => aInt a0_24 fun x_p => aC r fun a0_25 r => aInt a0_25 fun x_c => aN r <| aC H fun b0 r => aC r fun b1 r => aN r <| bView 1 b0 fun ws cur xs => bRow 0 true b1 fun (l : List Int) => ws = l ∧ xs.length ≤ 2 ∧ So (m_ ws.length cur x_l x_p x_c) fun x => K (vi x) [.pk 0 [ws, cur] xs [.row 1], .row 0 l true]
def y7a (m_ : Y7) : Spec := ⟨ycf m_, (true : Bool)⟩
def y8y (m_ : Y7) (args : List V) (H : Heap) (K : V → Heap → Prop) : Prop :=
  aC args fun a0 r => aN r <| aAgg a0 fun c0 => aC c0 fun a0_0 r => aPtr 0 a0_0 <| yy (List.take 23 r) fun x_l => aRest (List.drop 23 r) fun r => aC r fun a0_24 r => aInt a0_24 fun x_p => aC r fun a0_25 r => aInt a0_25 fun x_c => aN r <| aC H fun b0 r => aC r fun b1 r => aN r <| bView 1 b0 fun ws cur xs => bRow 0 true b1 fun (l : List Int) => ws = l ∧ xs.length ≤ 2 ∧ So (m_ ws.length cur x_l x_p x_c) fun x => K (vi x) [.pk 0 [ws, cur] xs [.row 1], .row 0 l true]
def y7e (m_ : Y7) : Spec := ⟨y8y m_, (true : Bool)⟩
abbrev Y13 := Nat → (List Int) → Int → Int → Int → Int → Int → Int → Int → Int → Int → Int → Int → Int → Int → Int → Int → Int → Int → Int → Int → Int → Int → Int → Int → Int → Int → Int → Option (List Int)
def y6o (m_ : Y13) (args : List V) (H : Heap) (K : V → Heap → Prop) : Prop :=
  aC args fun a0 r => aC r fun a1 r => aN r <| aPtr 0 a0 <| aPtr 1 a1 <| aC H fun b0 r => aC r fun b1 r => aC r fun b2 r => aC r fun b3 r => aN r <| bCells b0 fun U c0 => aC c0 fun d0_0 r => aPtr 2 d0_0 <| aC r fun d0_1 r => aInt d0_1 fun x_l_c_Workers => aC r fun d0_2 r => aInt d0_2 fun x_l_c_CPUs => aC r fun d0_3 r => aInt d0_3 fun x_l_c_Pages => aC r fun d0_4 r => aInt d0_4 fun x_l_c_Stripes => aC r fun d0_5 r => aInt d0_5 fun x_l_c_Tries => aC r fun d0_6 r => aInt d0_6 fun x_l_c_Wait => aC r fun d0_7 r => aInt d0_7 fun x_l_c_Clock => aC r fun d0_8 r => aInt d0_8 fun x_l_c_Private => aC r fun d0_9 r => aInt d0_9 fun x_l_c_Cache => aC r fun d0_10 r => aInt d0_10 fun x_l_c_Bin => aC r fun d0_11 r => aInt d0_11 fun x_l_c_Batch => aC r fun d0_12 r => aInt d0_12 fun x_l_at_0 => aC r fun d0_13 r => aInt d0_13 fun x_l_at_1 => aC r fun d0_14 r => aInt d0_14 fun x_l_at_2 => aC r fun d0_15 r => aInt d0_15 fun x_l_at_3 => aC r fun d0_16 r => aInt d0_16 fun x_l_at_4 => aC r fun d0_17 r => aInt d0_17 fun x_l_at_5 => aC r fun d0_18 r => aInt d0_18 fun x_l_at_6 => aC r fun d0_19 r => aInt d0_19 fun x_l_at_7 => aC r fun d0_20 r => aInt d0_20 fun x_l_at_8 => aC r fun d0_21 r => aInt d0_21 fun x_l_at_9 => aC r fun d0_22 r => aInt d0_22 fun x_l_at_10 => aC r fun d0_23 r => aInt d0_23 fun x_l_at_11 => aC r fun d0_24 r => aInt d0_24 fun x_p => aC r fun d0_25 r => aInt d0_25 fun x_c => aN r <| bCells b1 fun U2 c1 => aC c1 fun d1_0 r => aInt d1_0 fun left => aN r <| bView 3 b2 fun ws cur xs => bRow 0 true b3 fun (l : List Int) => ws = l ∧ xs.length ≤ 2 ∧ So (m_ ws.length cur x_l_c_Workers x_l_c_CPUs x_l_c_Pages x_l_c_Stripes x_l_c_Tries x_l_c_Wait x_l_c_Clock x_l_c_Private x_l_c_Cache x_l_c_Bin x_l_c_Batch x_l_at_0 x_l_at_1 x_l_at_2 x_l_at_3 x_l_at_4 x_l_at_5 x_l_at_6 x_l_at_7 x_l_at_8 x_l_at_9 x_l_at_10 x_l_at_11 x_p x_c left) fun x => K (.tup []) [.cells U [.ptr 2 0, vi x_l_c_Workers, vi x_l_c_CPUs, vi x_l_c_Pages, vi x_l_c_Stripes, vi x_l_c_Tries, vi x_l_c_Wait, vi x_l_c_Clock, vi x_l_c_Private, vi x_l_c_Cache, vi x_l_c_Bin, vi x_l_c_Batch, vi x_l_at_0, vi x_l_at_1, vi x_l_at_2, vi x_l_at_3, vi x_l_at_4, vi x_l_at_5, vi x_l_at_6, vi x_l_at_7, vi x_l_at_8, vi x_l_at_9, vi x_l_at_10, vi x_l_at_11, vi x_p, vi x_c], .cells U2 [vi left], .pk 0 [ws, x] xs [.row 3], .row 0 l true]
def y7n (m_ : Y13) : Spec := ⟨y6o m_, (true : Bool)⟩
abbrev Y25 := Nat → (List Int) → ya → Int → Int → Int → Int → Option (List Int)
def y7q (m_ : Y25) (args : List V) (H : Heap) (K : V → Heap → Prop) : Prop :=
  aC args fun a0 r => aC r fun a1 r => aC r fun a2 r => aN r <| aAgg a0 fun c0 => aC c0 fun a0_0 r => aPtr 0 a0_0 <| yy (List.take 23 r) fun x_l => aRest (List.drop 23 r) fun r => aC r fun a0_24 r => aInt a0_24 fun x_p => aC r fun a0_25 r => aInt a0_25 fun x_c => aN r <| aInt a1 fun bits => aInt a2 fun left => aC H fun b0 r => aC r fun b1 r => aN r <| bView 1 b0 fun ws cur xs => bRow 0 true b1 fun (l : List Int) => ws = l ∧ xs.length ≤ 2 ∧ So (m_ ws.length cur x_l x_p x_c bits left) fun x => K (.tup []) [.pk 0 [ws, x] xs [.row 1], .row 0 l true]
def y7z (m_ : Y25) : Spec := ⟨y7q m_, (true : Bool)⟩
abbrev Y40 := Nat → (List Int) → ya → Int → Option (ya × Int × Int × Bool × (List Int))
def ybi (m_ : Y40) (args : List V) (H : Heap) (K : V → Heap → Prop) : Prop :=
  aC args fun a0 r => aC r fun a1 r => aC r fun a2 r => aN r <| aPtr 0 a0 <| aAgg a1 fun c1 => yy c1 fun l2 => aInt a2 fun c => aC H fun b0 r => aC r fun b1 r => aN r <| bView 1 b0 fun ws cur xs => bRow 0 true b1 fun (l : List Int) => ws = l ∧ xs.length ≤ 2 ∧ So (m_ ws.length cur l2 c) fun x => br x.2.2.2.1 (K (.tup [.agg ([.ptr 0 0] ++ yd x.1 ++ [vi x.2.1, vi x.2.2.1]), vb true]) [.pk 0 [ws, x.2.2.2.2] xs [.row 1], .row 0 l true]) (K (.tup [.agg ([.ext (.pointer none)] ++ yd x.1 ++ [vi x.2.1, vi x.2.2.1]), vb false]) [.pk 0 [ws, x.2.2.2.2] xs [.row 1], .row 0 l true])
def yhd (m_ : Y40) : Spec := ⟨ybi m_, (true : Bool)⟩
abbrev Y24 := Nat → (List Int) → ya → Int → Option (Int × Bool × (List Int))
def y8h (m_ : Y24) (args : List V) (H : Heap) (K : V → Heap → Prop) : Prop :=
  aC args fun a0 r => aC r fun a1 r => aC r fun a2 r => aN r <| aPtr 0 a0 <| aAgg a1 fun c1 => yy c1 fun l2 => aInt a2 fun c => aC H fun b0 r => aC r fun b1 r => aN r <| bView 1 b0 fun ws cur xs => bRow 0 true b1 fun (l : List Int) => ws = l ∧ xs.length ≤ 2 ∧ So (m_ ws.length cur l2 c) fun x => K (.tup [vi x.1, vb x.2.1]) [.pk 0 [ws, x.2.2] xs [.row 1], .row 0 l true]
def yd7 (m_ : Y24) : Spec := ⟨y8h m_, (true : Bool)⟩
def yce (m_ : Y32) (args : List V) (H : Heap) (K : V → Heap → Prop) : Prop :=
  aC args fun a0 r => aC r fun a1 r => aC r fun a2 r => aN r <| aPtr 0 a0 <| aAgg a1 fun c1 => yy c1 fun l2 => aInt a2 fun c => aC H fun b0 r => aC r fun b1 r => aN r <| bView 1 b0 fun ws cur xs => bRow 0 true b1 fun (l : List Int) => ws = l ∧ xs.length ≤ 2 ∧ So (m_ ws.length cur l2 c) fun x => K (vb x) [.pk 0 [ws, cur] xs [.row 1], .row 0 l true]
def yez (m_ : Y32) : Spec := ⟨yce m_, (true : Bool)⟩
abbrev Y26 := Nat → (List Int) → ya → Int → Option (ya × Int × Int × Int × Bool)
def yac (m_ : Y26) (args : List V) (H : Heap) (K : V → Heap → Prop) : Prop :=
  aC args fun a0 r => aC r fun a1 r => aC r fun a2 r => aN r <| aPtr 0 a0 <| aAgg a1 fun c1 => yy c1 fun l2 => aInt a2 fun a => aC H fun b0 r => aC r fun b1 r => aN r <| bView 1 b0 fun ws cur xs => bRow 0 true b1 fun (l : List Int) => ws = l ∧ xs.length ≤ 2 ∧ So (m_ ws.length cur l2 a) fun x => br x.2.2.2.2 (K (.tup [.agg ([.ptr 0 0] ++ yd x.1 ++ [vi x.2.1, vi x.2.2.1]), vi x.2.2.2.1, vb true]) [.pk 0 [ws, cur] xs [.row 1], .row 0 l true]) (K (.tup [.agg ([.ext (.pointer none)] ++ yd x.1 ++ [vi x.2.1, vi x.2.2.1]), vi x.2.2.2.1, vb false]) [.pk 0 [ws, cur] xs [.row 1], .row 0 l true])
def y99 (m_ : Y26) : Spec := ⟨yac m_, (true : Bool)⟩
def y7p (m_ : Y20) (args : List V) (H : Heap) (K : V → Heap → Prop) : Prop :=
  aC args fun a0 r => aC r fun a1 r => aC r fun a2 r => aN r <| aPtr 0 a0 <| aAgg a1 fun c1 => yy c1 fun l2 => aInt a2 fun a => aC H fun b0 r => aC r fun b1 r => aN r <| bView 1 b0 fun ws cur xs => bRow 0 true b1 fun (l : List Int) => ws = l ∧ xs.length ≤ 2 ∧ So (m_ ws.length cur l2 a) fun x => K (vb x.1) [.pk 0 [ws, x.2] xs [.row 1], .row 0 l true]
def yer (m_ : Y20) : Spec := ⟨y7p m_, (true : Bool)⟩
abbrev Y58 := Nat → (List Int) → ya → Int → Option (Int × Bool)
def ya1 (m_ : Y58) (args : List V) (H : Heap) (K : V → Heap → Prop) : Prop :=
  aC args fun a0 r => aC r fun a1 r => aC r fun a2 r => aN r <| aPtr 0 a0 <| aAgg a1 fun c1 => yy c1 fun l2 => aInt a2 fun a => aC H fun b0 r => aC r fun b1 r => aN r <| bView 1 b0 fun ws cur xs => bRow 0 true b1 fun (l : List Int) => ws = l ∧ xs.length ≤ 2 ∧ So (m_ ws.length cur l2 a) fun x => K (.tup [vi x.1, vb x.2]) [.pk 0 [ws, cur] xs [.row 1], .row 0 l true]
def yj8 (m_ : Y58) : Spec := ⟨ya1 m_, (true : Bool)⟩
def y9p (m_ : Y2) (args : List V) (H : Heap) (K : V → Heap → Prop) : Prop :=
  aC args fun a0 r => aC r fun a1 r => aC r fun a2 r => aN r <| aPtr 0 a0 <| aAgg a1 fun c1 => yy c1 fun l2 => aInt a2 fun c => aC H fun b0 r => aC r fun b1 r => aN r <| bView 1 b0 fun ws cur xs => bRow 0 true b1 fun (l : List Int) => ws = l ∧ xs.length ≤ 2 ∧ So (m_ ws.length cur l2 c) fun x => K (vi x) [.pk 0 [ws, cur] xs [.row 1], .row 0 l true]
def yb8 (m_ : Y2) : Spec := ⟨y9p m_, (true : Bool)⟩
def yj7 (y0p : Y5) : Cfg := { cfgB with
  sigs := (sigC 31 (y61 y0p) (sigC 63 rdS sigN)),
  plan := fun r => match r with | 1 => some (List.range 9, 16) | _ => none }
def yg0 (y09 : Y5) : Cfg := { cfgB with
  sigs := (sigC 22 (y6d y09) (sigC 63 rdS sigN)),
  plan := fun r => match r with | 1 => some (List.range 9, 16) | _ => none }
def y9m (y3d : Y12) : Cfg := { cfgB with
  sigs := (sigC 100 (yjo y3d) sigN) }
def yhj (y1g : Y7) (y43 : Y12) (yn : Y3) (y49 : Y54) (y3g : Y13) (y09 y0p : Y5) : Cfg := { cfgB with
  sigs := (sigC 58 (y7a y1g) (sigC 97 (yeh y43) (sigC 20 (y5u yn) (sigC 98 (yi3 y49) (sigC 99 (y7n y3g) (sigC 22 (y6d y09) (sigC 96 wrS (sigC 31 (y61 y0p) sigN)))))))),
  plan := fun r => match r with | 1 => some (List.range 11, 24189255811088) | 2 => some (List.range 5, 0) | 5 => some ([0, 1, 2, 3, 4, 5, 7, 6, 8], 19791209299984) | 6 => some ([0, 1, 2, 3, 4, 5, 7, 6, 8], 19791209299984) | _ => none }
def yil (yx : Y3) (y2t : Y2) (y46 : Y7) (y3i : Y12) (y0p : Y5) (yn : Y3) : Cfg := { cfgB with
  sigs := (sigC 19 (y5p yx) (sigC 52 (ybr y2t) (sigC 94 (yhf y46) (sigC 95 (yel y3i) (sigC 31 (y61 y0p) (sigC 20 (y5u yn) (sigC 96 wrS sigN))))))) }
def ydc (y2x : Y40) (y0z : Y7) (yn : Y3) (y59 y3w : Y10) (y1g : Y7) (y2k : Y25) (y3p : Y5) (yx : Y3) : Cfg := { cfgB with
  sigs := (sigC 53 (yhd y2x) (sigC 55 (y7e y0z) (sigC 20 (y5u yn) (sigC 54 (ygd y59) (sigC 57 (yig y3w) (sigC 58 (y7a y1g) (sigC 56 (y7z y2k) (sigC 59 (ydk y3p) (sigC 19 (y5p yx) sigN))))))))),
  plan := fun r => match r with | 5 => some ([0, 1, 3, 5, 2, 4, 6, 7, 8], 16) | _ => none }
def yif (y2t : Y2) : Cfg := { cfgB with
  sigs := (sigC 52 (ybr y2t) sigN) }
def yia (y4b : Y64) (yf : Y2) (yx : Y3) (y0z : Y7) (y3j : Y22) : Cfg := { cfgB with
  sigs := (sigC 26 (yfe y4b) (sigC 62 (y5d yf) (sigC 19 (y5p yx) (sigC 55 (y7e y0z) (sigC 27 (ye8 y3j) sigN))))),
  plan := fun r => match r with | 6 => some ([0, 1, 2, 3, 4, 5, 6, 7, 8, 9, 11, 12, 13, 10, 14, 15, 16], 16) | 8 => some (List.range 7, 144) | _ => none,
  planT := fun r => match r with | 4 => some ((chainT [0, 1, 2, 3, 4, 5] (.alt (chainT [6, 7, 8, 9, 10] .fin) (chainT [9, 6, 7, 8, 10] .fin))), 8208) | _ => none,
  flag := fun d => Nat.beq d 6 || Nat.beq d 12 }
def yj2 (y2a : Y26) (y0z : Y7) (y3n : Y10) (y1g : Y7) (y2k : Y25) : Cfg := { cfgB with
  sigs := (sigC 64 (y99 y2a) (sigC 55 (y7e y0z) (sigC 65 (ye1 y3n) (sigC 58 (y7a y1g) (sigC 56 (y7z y2k) sigN))))),
  plan := fun r => match r with | 3 => some ([0, 1, 3, 5, 2, 4, 6, 7, 8], 16) | _ => none }
def yi2 (y2a : Y26) : Cfg := { cfgB with
  sigs := (sigC 64 (y99 y2a) sigN) }
def y4w (yk : Y41) (yx : Y3) (yf : Y2) (yn : Y3) (y09 : Y5) (y1v : Y10) : Cfg := { cfgB with
  sigs := (sigC 17 (y5c yk) (sigC 19 (y5p yx) (sigC 62 (y5d yf) (sigC 20 (y5u yn) (sigC 22 (y6d y09) (sigC 63 rdS (sigC 21 (yga y1v) sigN))))))),
  keep := fun r => match r with | 3 => some [(0, none), (2, none), (4, none), (7, none), (11, none), (12, none)] | _ => none,
  plan := fun r => match r with | 6 => some ([0, 1, 3, 4, 5, 8, 2, 6, 7, 9, 10, 11, 12, 13], 16) | _ => none }
theorem yoh (y0p : Y5) (ws cur : List Int) (xs : List Value) (x_l : ya) (x_p x_c : Int) (K : V → Heap → Prop) : (exF (yj7 y0p) Tryz.f58 [.agg ([.ptr 0 0] ++ yd x_l ++ [vi x_p, vi x_c])] (hV ws cur xs) K) = (
    So (y0p x_l x_p) (fun (y0 : Int) => ((ws = ws) ∧ ((xs.length ≤ 2) ∧ (Req (inR y0 ws.length) (K (vi (rd cur y0)) (hV ws cur xs))))))) := by kernel_rfl
theorem yld (y09 : Y5) (ws cur : List Int) (xs : List Value) (x_l : ya) (x_p x_c : Int) (K : V → Heap → Prop) : (exF (yg0 y09) Tryz.f55 [.agg ([.ptr 0 0] ++ yd x_l ++ [vi x_p, vi x_c])] (hV ws cur xs) K) = (
    So (y09 x_l x_p) (fun (y0 : Int) => ((ws = ws) ∧ ((xs.length ≤ 2) ∧ (Req (inR y0 ws.length) (K (vi (rd cur y0)) (hV ws cur xs))))))) := by kernel_rfl
theorem yje (y3d : Y12) (ws cur : List Int) (xs : List Value) (x_l_c_Workers x_l_c_CPUs : Int) (x_l_c_Pages x_l_c_Stripes : Int) (x_l_c_Tries x_l_c_Wait : Int) (x_l_c_Clock x_l_c_Private : Int) (x_l_c_Cache x_l_c_Bin : Int) (x_l_c_Batch x_l_at_0 : Int) (x_l_at_1 x_l_at_2 : Int) (x_l_at_3 x_l_at_4 : Int) (x_l_at_5 x_l_at_6 : Int) (x_l_at_7 x_l_at_8 : Int) (x_l_at_9 x_l_at_10 : Int) (x_l_at_11 x_p : Int) (x_c left : Int) (U U2 : TypeId) (K : V → Heap → Prop) : (exF (y9m y3d) Tryz.f99 [.ptr 0 0, .ptr 1 0] [.cells U [.ptr 2 0, vi x_l_c_Workers, vi x_l_c_CPUs, vi x_l_c_Pages, vi x_l_c_Stripes, vi x_l_c_Tries, vi x_l_c_Wait, vi x_l_c_Clock, vi x_l_c_Private, vi x_l_c_Cache, vi x_l_c_Bin, vi x_l_c_Batch, vi x_l_at_0, vi x_l_at_1, vi x_l_at_2, vi x_l_at_3, vi x_l_at_4, vi x_l_at_5, vi x_l_at_6, vi x_l_at_7, vi x_l_at_8, vi x_l_at_9, vi x_l_at_10, vi x_l_at_11, vi x_p, vi x_c], .cells U2 [vi left], .pk 0 [ws, cur] xs [.row 3], .row 0 ws true] K) = (
    ((ws = ws) ∧ ((xs.length ≤ 2) ∧ (So (y3d ws.length cur (ya.mk (yb.mk x_l_c_Workers x_l_c_CPUs x_l_c_Pages x_l_c_Stripes x_l_c_Tries x_l_c_Wait x_l_c_Clock x_l_c_Private x_l_c_Cache x_l_c_Bin x_l_c_Batch) x_l_at_0 x_l_at_1 x_l_at_2 x_l_at_3 x_l_at_4 x_l_at_5 x_l_at_6 x_l_at_7 x_l_at_8 x_l_at_9 x_l_at_10 x_l_at_11) x_p x_c left) (fun (y0 : Bool × List Int) => (K (.tup []) [.cells U [.ptr 2 0, vi x_l_c_Workers, vi x_l_c_CPUs, vi x_l_c_Pages, vi x_l_c_Stripes, vi x_l_c_Tries, vi x_l_c_Wait, vi x_l_c_Clock, vi x_l_c_Private, vi x_l_c_Cache, vi x_l_c_Bin, vi x_l_c_Batch, vi x_l_at_0, vi x_l_at_1, vi x_l_at_2, vi x_l_at_3, vi x_l_at_4, vi x_l_at_5, vi x_l_at_6, vi x_l_at_7, vi x_l_at_8, vi x_l_at_9, vi x_l_at_10, vi x_l_at_11, vi x_p, vi x_c], .cells U2 [vi left], .pk 0 [ws, y0.2] xs [.row 3], .row 0 ws true])))))) := by kernel_rfl
theorem ylg (y1g : Y7) (y43 : Y12) (yn : Y3) (y49 : Y54) (y3g : Y13) (y09 y0p : Y5) (ws cur : List Int) (xs : List Value) (x_l : ya) (x_p x_c : Int) (bits left : Int) (K : V → Heap → Prop) : (exFH (yhj y1g y43 yn y49 y3g y09 y0p) (sdC 99 (y7n y3g)) Tryz.f56 [.agg ([.ptr 0 0] ++ yd x_l ++ [vi x_p, vi x_c]), vi bits, vi left] (hV ws cur xs) K) = (
    ((ws = ws) ∧ ((xs.length ≤ 2) ∧ (So (y1g ws.length cur x_l x_p x_c) (fun (y0 : Int) => ((ws = ws) ∧ ((xs.length ≤ 2) ∧ (So (y43 ws.length cur x_l x_p x_c y0) (fun (y1 : Bool × List Int) => (So (yn x_c) (fun (y2 : Int) => (br (left == y2) ((ws = ws) ∧ ((xs.length ≤ 2) ∧ (So (y49 ws.length y1.2 x_l x_p) (fun (y3 : Int × List Int) => (K (.tup []) (hV ws y3.2 xs)))))) (So (y09 x_l x_p) (fun (y4 : Int) => ((ws = ws) ∧ ((xs.length ≤ 2) ∧ (Req (inR y4 ws.length) (So (y0p x_l x_p) (fun (y5 : Int) => ((ws = ws) ∧ ((xs.length ≤ 2) ∧ (Req (inR y5 ws.length) ((ws = ws) ∧ ((xs.length ≤ 2) ∧ (So (y3g ws.length (wr (wr y1.2 y4 bits) y5 left) x_l.c.Workers x_l.c.CPUs x_l.c.Pages x_l.c.Stripes x_l.c.Tries x_l.c.Wait x_l.c.Clock x_l.c.Private x_l.c.Cache x_l.c.Bin x_l.c.Batch x_l.at_0 x_l.at_1 x_l.at_2 x_l.at_3 x_l.at_4 x_l.at_5 x_l.at_6 x_l.at_7 x_l.at_8 x_l.at_9 x_l.at_10 x_l.at_11 x_p x_c left) (fun (y6 : List Int) => (K (.tup []) (hV ws y6 xs)))))))))))))))))))))))))))) := by kernel_rfl
theorem ylt (yx : Y3) (y2t : Y2) (y46 : Y7) (y3i : Y12) (y0p : Y5) (yn : Y3) (ws cur : List Int) (xs : List Value) (l2 : ya) (c : Int) (K : V → Heap → Prop) : (exF (yil yx y2t y46 y3i y0p yn) Tryz.f53 [.ptr 0 0, .agg (yd l2), vi c] (hV ws cur xs) K) = (
    So (yx c) (fun (y0 : Int) => (br (y0 == 0) (K (.tup [.agg [.ext (Go.Value.pointer Option.none), vi 0, vi 0, vi 0, vi 0, vi 0, vi 0, vi 0, vi 0, vi 0, vi 0, vi 0, vi 0, vi 0, vi 0, vi 0, vi 0, vi 0, vi 0, vi 0, vi 0, vi 0, vi 0, vi 0, vi 0, vi 0], vb false]) (hV ws cur xs)) ((ws = ws) ∧ ((xs.length ≤ 2) ∧ (So (y2t ws.length cur l2 c) (fun (y1 : Int) => (br (decide (y1 ≥ 0)) (K (.tup [.agg ([.ptr 0 0] ++ yd l2 ++ [vi y1, vi c]), vb true]) (hV ws cur xs)) ((ws = ws) ∧ ((xs.length ≤ 2) ∧ (So (y46 ws.length cur l2 1 1) (fun (y2 : Int) => ((ws = ws) ∧ ((xs.length ≤ 2) ∧ (So (y3i ws.length cur l2 y2 1 (IntKind.i64.wrap (c + 1))) (fun (y3 : Bool × List Int) => (br (!y3.1) (K (.tup [.agg [.ext (Go.Value.pointer Option.none), vi 0, vi 0, vi 0, vi 0, vi 0, vi 0, vi 0, vi 0, vi 0, vi 0, vi 0, vi 0, vi 0, vi 0, vi 0, vi 0, vi 0, vi 0, vi 0, vi 0, vi 0, vi 0, vi 0, vi 0, vi 0], vb false]) (hV ws y3.2 xs)) (So (y0p l2 y2) (fun (y4 : Int) => (So (yn c) (fun (y5 : Int) => ((ws = ws) ∧ ((xs.length ≤ 2) ∧ (Req (inR y4 ws.length) (K (.tup [.agg ([.ptr 0 0] ++ yd l2 ++ [vi y2, vi c]), vb true]) (hV ws (wr y3.2 y4 y5) xs)))))))))))))))))))))))))) := by kernel_rfl
theorem yn0 (y2x : Y40) (y0z : Y7) (yn : Y3) (y59 y3w : Y10) (y1g : Y7) (y2k : Y25) (y3p : Y5) (yx : Y3) (ws cur : List Int) (xs : List Value) (l2 : ya) (c : Int) (K : V → Heap → Prop) : (exF (ydc y2x y0z yn y59 y3w y1g y2k y3p yx) Tryz.f25 [.ptr 0 0, .agg (yd l2), vi c] (hV ws cur xs) K) = (
    ((ws = ws) ∧ ((xs.length ≤ 2) ∧ (So (y2x ws.length cur l2 c) (fun (y0 : ya × Int × Int × Bool × List Int) => (br y0.2.2.2.1 ((ws = ws) ∧ ((xs.length ≤ 2) ∧ (So (y0z ws.length y0.2.2.2.2 y0.1 y0.2.1 y0.2.2.1) (fun (y1 : Int) => (So (yn c) (fun (y2 : Int) => (So (y59 y1 y2) (fun (y3 : Int) => ((ws = ws) ∧ ((xs.length ≤ 2) ∧ (So (y0z ws.length y0.2.2.2.2 y0.1 y0.2.1 y0.2.2.1) (fun (y4 : Int) => (So (y3w y4 y3) (fun (y5 : Int) => ((ws = ws) ∧ ((xs.length ≤ 2) ∧ (So (y1g ws.length y0.2.2.2.2 y0.1 y0.2.1 y0.2.2.1) (fun (y6 : Int) => ((ws = ws) ∧ ((xs.length ≤ 2) ∧ (So (y2k ws.length y0.2.2.2.2 y0.1 y0.2.1 y0.2.2.1 y5 (IntKind.i64.wrap (y6 - 1))) (fun (y7 : List Int) => (So (y3p l2 y0.2.1) (fun (y8 : Int) => (So (yx c) (fun (y9 : Int) => (K (.tup [vi (IntKind.i64.wrap (y8 + IntKind.i64.wrap (y3 * y9))), vb true]) (hV ws y7 xs)))))))))))))))))))))))))))) (K (.tup [vi 0, vb false]) (hV ws y0.2.2.2.2 xs)))))))) := by kernel_rfl
theorem yp1 (y2t : Y2) (ws cur : List Int) (xs : List Value) (l2 : ya) (c : Int) (K : V → Heap → Prop) : (exF (yif y2t) Tryz.f24 [.ptr 0 0, .agg (yd l2), vi c] (hV ws cur xs) K) = (
    ((ws = ws) ∧ ((xs.length ≤ 2) ∧ (So (y2t ws.length cur l2 c) (fun (y0 : Int) => (K (vb (decide (y0 ≥ 0))) (hV ws cur xs))))))) := by kernel_rfl
theorem yl9 (y4b : Y64) (yf : Y2) (yx : Y3) (y0z : Y7) (y3j : Y22) (ws cur : List Int) (xs : List Value) (l2 : ya) (a : Int) (K : V → Heap → Prop) : (exF (yia y4b yf yx y0z y3j) Tryz.f64 [.ptr 0 0, .agg (yd l2), vi a] (hV ws cur xs) K) = (
    So (y4b l2 a) (fun (y0 : Int × Int × Bool) => (br (!y0.2.2) (K (.tup [.agg [.ext (Go.Value.pointer Option.none), vi 0, vi 0, vi 0, vi 0, vi 0, vi 0, vi 0, vi 0, vi 0, vi 0, vi 0, vi 0, vi 0, vi 0, vi 0, vi 0, vi 0, vi 0, vi 0, vi 0, vi 0, vi 0, vi 0, vi 0, vi 0], vi 0, vb false]) (hV ws cur xs)) (((ws = ws) ∧ ((xs.length ≤ 2) ∧ (So (yf ws.length cur l2 y0.1) (fun (y1 : Int) => (So (yx (IntKind.i64.wrap (y1 - 1))) (fun (y2 : Int) => (br (y2 == 0) (K (.tup [.agg [.ext (Go.Value.pointer Option.none), vi 0, vi 0, vi 0, vi 0, vi 0, vi 0, vi 0, vi 0, vi 0, vi 0, vi 0, vi 0, vi 0, vi 0, vi 0, vi 0, vi 0, vi 0, vi 0, vi 0, vi 0, vi 0, vi 0, vi 0, vi 0], vi 0, vb false]) (hV ws cur xs)) (Req (!y2 == 0) (br (Int.tmod y0.2.1 y2 != 0) (K (.tup [.agg [.ext (Go.Value.pointer Option.none), vi 0, vi 0, vi 0, vi 0, vi 0, vi 0, vi 0, vi 0, vi 0, vi 0, vi 0, vi 0, vi 0, vi 0, vi 0, vi 0, vi 0, vi 0, vi 0, vi 0, vi 0, vi 0, vi 0, vi 0, vi 0], vi 0, vb false]) (hV ws cur xs)) (Req (!y2 == 0) ((ws = ws) ∧ ((xs.length ≤ 2) ∧ (So (y0z ws.length cur l2 y0.1 (IntKind.i64.wrap (y1 - 1))) (fun (y3 : Int) => (So (y3j y3 (IntKind.i64.wrap (Int.tdiv y0.2.1 y2))) (fun (y4 : Bool) => (br (!y4) (K (.tup [.agg [.ext (Go.Value.pointer Option.none), vi 0, vi 0, vi 0, vi 0, vi 0, vi 0, vi 0, vi 0, vi 0, vi 0, vi 0, vi 0, vi 0, vi 0, vi 0, vi 0, vi 0, vi 0, vi 0, vi 0, vi 0, vi 0, vi 0, vi 0, vi 0], vi 0, vb false]) (hV ws cur xs)) (Req (!y2 == 0) (K (.tup [.agg ([.ptr 0 0] ++ yd l2 ++ [vi y0.1, vi (IntKind.i64.wrap (y1 - 1))]), vi (IntKind.i64.wrap (Int.tdiv y0.2.1 y2)), vb true]) (hV ws cur xs)))))))))))))))))))) ∧ ((ws = ws) ∧ ((xs.length ≤ 2) ∧ (So (yf ws.length cur l2 y0.1) (fun (y5 : Int) => (So (yx (IntKind.i64.wrap (y5 - 1))) (fun (y6 : Int) => (br (y6 == 0) (K (.tup [.agg [.ext (Go.Value.pointer Option.none), vi 0, vi 0, vi 0, vi 0, vi 0, vi 0, vi 0, vi 0, vi 0, vi 0, vi 0, vi 0, vi 0, vi 0, vi 0, vi 0, vi 0, vi 0, vi 0, vi 0, vi 0, vi 0, vi 0, vi 0, vi 0], vi 0, vb false]) (hV ws cur xs)) (Req (!y6 == 0) (br (Int.tmod y0.2.1 y6 != 0) (K (.tup [.agg [.ext (Go.Value.pointer Option.none), vi 0, vi 0, vi 0, vi 0, vi 0, vi 0, vi 0, vi 0, vi 0, vi 0, vi 0, vi 0, vi 0, vi 0, vi 0, vi 0, vi 0, vi 0, vi 0, vi 0, vi 0, vi 0, vi 0, vi 0, vi 0], vi 0, vb false]) (hV ws cur xs)) (Req (!y6 == 0) ((ws = ws) ∧ ((xs.length ≤ 2) ∧ (So (y0z ws.length cur l2 y0.1 (IntKind.i64.wrap (y5 - 1))) (fun (y7 : Int) => (So (y3j y7 (IntKind.i64.wrap (Int.tdiv y0.2.1 y6))) (fun (y8 : Bool) => (br (!y8) (K (.tup [.agg [.ext (Go.Value.pointer Option.none), vi 0, vi 0, vi 0, vi 0, vi 0, vi 0, vi 0, vi 0, vi 0, vi 0, vi 0, vi 0, vi 0, vi 0, vi 0, vi 0, vi 0, vi 0, vi 0, vi 0, vi 0, vi 0, vi 0, vi 0, vi 0], vi 0, vb false]) (hV ws cur xs)) (Req (!y6 == 0) (K (.tup [.agg ([.ptr 0 0] ++ yd l2 ++ [vi y0.1, vi (IntKind.i64.wrap (y5 - 1))]), vi (IntKind.i64.wrap (Int.tdiv y0.2.1 y6)), vb true]) (hV ws cur xs)))))))))))))))))))))))) := by kernel_rfl
theorem yl2 (y2a : Y26) (y0z : Y7) (y3n : Y10) (y1g : Y7) (y2k : Y25) (ws cur : List Int) (xs : List Value) (l2 : ya) (a : Int) (K : V → Heap → Prop) : (exF (yj2 y2a y0z y3n y1g y2k) Tryz.f30 [.ptr 0 0, .agg (yd l2), vi a] (hV ws cur xs) K) = (
    ((ws = ws) ∧ ((xs.length ≤ 2) ∧ (So (y2a ws.length cur l2 a) (fun (y0 : ya × Int × Int × Int × Bool) => (br y0.2.2.2.2 ((ws = ws) ∧ ((xs.length ≤ 2) ∧ (So (y0z ws.length cur y0.1 y0.2.1 y0.2.2.1) (fun (y1 : Int) => (So (y3n y1 y0.2.2.2.1) (fun (y2 : Int) => ((ws = ws) ∧ ((xs.length ≤ 2) ∧ (So (y1g ws.length cur y0.1 y0.2.1 y0.2.2.1) (fun (y3 : Int) => ((ws = ws) ∧ ((xs.length ≤ 2) ∧ (So (y2k ws.length cur y0.1 y0.2.1 y0.2.2.1 y2 (IntKind.i64.wrap (y3 + 1))) (fun (y4 : List Int) => (K (vb true) (hV ws y4 xs)))))))))))))))) (K (vb false) (hV ws cur xs)))))))) := by kernel_rfl
theorem ykp (y2a : Y26) (ws cur : List Int) (xs : List Value) (l2 : ya) (a : Int) (K : V → Heap → Prop) : (exF (yi2 y2a) Tryz.f42 [.ptr 0 0, .agg (yd l2), vi a] (hV ws cur xs) K) = (
    ((ws = ws) ∧ ((xs.length ≤ 2) ∧ (So (y2a ws.length cur l2 a) (fun (y0 : ya × Int × Int × Int × Bool) => (br y0.2.2.2.2 (K (.tup [vi y0.2.2.1, vb true]) (hV ws cur xs)) (K (.tup [vi y0.2.2.1, vb false]) (hV ws cur xs)))))))) := by kernel_rfl
theorem ynv (yk : Y41) (yx : Y3) (yf : Y2) (yn : Y3) (y09 : Y5) (y1v : Y10) (ws cur : List Int) (xs : List Value) (l2 : ya) (c many : Int) (t11 t12 : Int) (K : V → Heap → Prop) (J1 : Env → Heap → Prop) : (ex (y4w yk yx yf yn y09 y1v) (⟨42, 2⟩ : Cx) (at_ (bodyOf Tryz.f29) [1, 1, 0, 1, 0, 0]) (mkEnv [(0, .ptr 0 0), (2, vi c), (4, .ptr 2 0), (7, vi many), (11, vi t11), (12, vi t12)]) [.pk 0 [ws, cur] xs [.row 1], .row 0 ws true, .cells 28 (yd l2)] (roundK (y4w yk yx yf yn y09 y1v) (⟨42, 2⟩ : Cx) (at_ (bodyOf Tryz.f29) [1, 1, 0, 1, 0, 0]) (contK (y4w yk yx yf yn y09 y1v) (⟨42, 2⟩ : Cx) (bodyOf Tryz.f29) [1, 1, 0, 1, 0] (retK (y4w yk yx yf yn y09 y1v) Tryz.f29 2 K)) J1)) = (
    br (decide (t12 < t11)) (So (yx c) (fun (y0 : Int) => (br (decide (y0 > 0)) ((ws = ws) ∧ ((xs.length ≤ 2) ∧ (So (yf ws.length cur l2 t12) (fun (y1 : Int) => (br (y1 == IntKind.i64.wrap (c + 1)) (So (yn c) (fun (y2 : Int) => (So (y09 l2 t12) (fun (y3 : Int) => ((ws = ws) ∧ ((xs.length ≤ 2) ∧ (Req (inR y3 ws.length) (So (yn c) (fun (y4 : Int) => (So (y1v (rd cur y3) y4) (fun (y5 : Int) => (J1 (mkEnv [(0, .ptr 0 0), (2, vi c), (4, .ptr 2 0), (7, vi (IntKind.i64.wrap (many + IntKind.i64.wrap (y2 - y5)))), (11, vi t11), (12, vi (IntKind.i64.wrap (t12 + 1)))]) [.pk 0 [ws, cur] xs [.row 1], .row 0 ws true, .cells 28 (yd l2)])))))))))))) (J1 (mkEnv [(0, .ptr 0 0), (2, vi c), (4, .ptr 2 0), (7, vi many), (11, vi t11), (12, vi (IntKind.i64.wrap (t12 + 1)))]) [.pk 0 [ws, cur] xs [.row 1], .row 0 ws true, .cells 28 (yd l2)])))))) (J1 (mkEnv [(0, .ptr 0 0), (2, vi c), (4, .ptr 2 0), (7, vi many), (11, vi t11), (12, vi (IntKind.i64.wrap (t12 + 1)))]) [.pk 0 [ws, cur] xs [.row 1], .row 0 ws true, .cells 28 (yd l2)])))) (K (vi many) (hV ws cur xs))) := by kernel_rfl
theorem ymj (yk : Y41) (yx : Y3) (yf : Y2) (yn : Y3) (y09 : Y5) (y1v : Y10) (ws cur : List Int) (xs : List Value) (l2 : ya) (c : Int) (K : V → Heap → Prop) : (exF (y4w yk yx yf yn y09 y1v) Tryz.f29 [.ptr 0 0, .agg (yd l2), vi c] (hV ws cur xs) K) = (
    So (yk l2) (fun (y0 : yb) => (Loop (y4w yk yx yf yn y09 y1v) (⟨42, 2⟩ : Cx) (at_ (bodyOf Tryz.f29) [1, 1, 0, 1, 0, 0]) (mkEnv [(0, .ptr 0 0), (2, vi c), (4, .ptr 2 0), (7, vi 0), (11, vi y0.Pages), (12, vi 0)]) [.pk 0 [ws, cur] xs [.row 1], .row 0 ws true, .cells 28 (yd l2)] (contK (y4w yk yx yf yn y09 y1v) (⟨42, 2⟩ : Cx) (bodyOf Tryz.f29) [1, 1, 0, 1, 0] (retK (y4w yk yx yf yn y09 y1v) Tryz.f29 2 K))))) := by kernel_rfl
def y1g (nw : Nat) (cur : List Int) (x_l : ya) (x_p x_c : Int) : Option Int :=
  ((y0p x_l x_p).bind fun y0 => (bif (inR y0 nw) then some (rd cur y0) else none))
def y0z (nw : Nat) (cur : List Int) (x_l : ya) (x_p x_c : Int) : Option Int :=
  ((y09 x_l x_p).bind fun y0 => (bif (inR y0 nw) then some (rd cur y0) else none))
def y3g (nw : Nat) (cur : List Int) (x_l_c_Workers x_l_c_CPUs : Int) (x_l_c_Pages x_l_c_Stripes : Int) (x_l_c_Tries x_l_c_Wait : Int) (x_l_c_Clock x_l_c_Private : Int) (x_l_c_Cache x_l_c_Bin : Int) (x_l_c_Batch x_l_at_0 : Int) (x_l_at_1 x_l_at_2 : Int) (x_l_at_3 x_l_at_4 : Int) (x_l_at_5 x_l_at_6 : Int) (x_l_at_7 x_l_at_8 : Int) (x_l_at_9 x_l_at_10 : Int) (x_l_at_11 x_p : Int) (x_c left : Int) : Option (List Int) :=
  ((y3d nw cur (ya.mk (yb.mk x_l_c_Workers x_l_c_CPUs x_l_c_Pages x_l_c_Stripes x_l_c_Tries x_l_c_Wait x_l_c_Clock x_l_c_Private x_l_c_Cache x_l_c_Bin x_l_c_Batch) x_l_at_0 x_l_at_1 x_l_at_2 x_l_at_3 x_l_at_4 x_l_at_5 x_l_at_6 x_l_at_7 x_l_at_8 x_l_at_9 x_l_at_10 x_l_at_11) x_p x_c left).bind fun y0 => some y0.2)
def y2k (nw : Nat) (cur : List Int) (x_l : ya) (x_p x_c : Int) (bits left : Int) : Option (List Int) :=
  ((y1g nw cur x_l x_p x_c).bind fun y0 => ((y43 nw cur x_l x_p x_c y0).bind fun y1 => ((yn x_c).bind fun y2 => (bif (left == y2) then ((y49 nw y1.2 x_l x_p).bind fun y3 => some y3.2) else ((y09 x_l x_p).bind fun y4 => (bif (inR y4 nw) then ((y0p x_l x_p).bind fun y5 => (bif (inR y5 nw) then ((y3g nw (wr (wr y1.2 y4 bits) y5 left) x_l.c.Workers x_l.c.CPUs x_l.c.Pages x_l.c.Stripes x_l.c.Tries x_l.c.Wait x_l.c.Clock x_l.c.Private x_l.c.Cache x_l.c.Bin x_l.c.Batch x_l.at_0 x_l.at_1 x_l.at_2 x_l.at_3 x_l.at_4 x_l.at_5 x_l.at_6 x_l.at_7 x_l.at_8 x_l.at_9 x_l.at_10 x_l.at_11 x_p x_c left).bind fun y6 => some y6) else none)) else none))))))
def y2x (nw : Nat) (cur : List Int) (l2 : ya) (c : Int) : Option (ya × Int × Int × Bool × (List Int)) :=
  ((yx c).bind fun y0 => (bif (y0 == 0) then some ((ya.mk (yb.mk 0 0 0 0 0 0 0 0 0 0 0) 0 0 0 0 0 0 0 0 0 0 0 0), 0, 0, false, cur) else ((y2t nw cur l2 c).bind fun y1 => (bif (decide (y1 ≥ 0)) then some (l2, y1, c, true, cur) else ((y46 nw cur l2 1 1).bind fun y2 => ((y3i nw cur l2 y2 1 (IntKind.i64.wrap (c + 1))).bind fun y3 => (bif (!y3.1) then some ((ya.mk (yb.mk 0 0 0 0 0 0 0 0 0 0 0) 0 0 0 0 0 0 0 0 0 0 0 0), 0, 0, false, y3.2) else ((y0p l2 y2).bind fun y4 => ((yn c).bind fun y5 => (bif (inR y4 nw) then some (l2, y2, c, true, (wr y3.2 y4 y5)) else none))))))))))
def y0n (nw : Nat) (cur : List Int) (l2 : ya) (c : Int) : Option (Int × Bool × (List Int)) :=
  ((y2x nw cur l2 c).bind fun y0 => (bif y0.2.2.2.1 then ((y0z nw y0.2.2.2.2 y0.1 y0.2.1 y0.2.2.1).bind fun y1 => ((yn c).bind fun y2 => ((y59 y1 y2).bind fun y3 => ((y0z nw y0.2.2.2.2 y0.1 y0.2.1 y0.2.2.1).bind fun y4 => ((y3w y4 y3).bind fun y5 => ((y1g nw y0.2.2.2.2 y0.1 y0.2.1 y0.2.2.1).bind fun y6 => ((y2k nw y0.2.2.2.2 y0.1 y0.2.1 y0.2.2.1 y5 (IntKind.i64.wrap (y6 - 1))).bind fun y7 => ((y3p l2 y0.2.1).bind fun y8 => ((yx c).bind fun y9 => some ((IntKind.i64.wrap (y8 + IntKind.i64.wrap (y3 * y9))), true, y7)))))))))) else some (0, false, y0.2.2.2.2)))
def y2z (nw : Nat) (cur : List Int) (l2 : ya) (c : Int) : Option Bool :=
  ((y2t nw cur l2 c).bind fun y0 => some (decide (y0 ≥ 0)))
def y2a (nw : Nat) (cur : List Int) (l2 : ya) (a : Int) : Option (ya × Int × Int × Int × Bool) :=
  ((y4b l2 a).bind fun y0 => (bif (!y0.2.2) then some ((ya.mk (yb.mk 0 0 0 0 0 0 0 0 0 0 0) 0 0 0 0 0 0 0 0 0 0 0 0), 0, 0, 0, false) else ((yf nw cur l2 y0.1).bind fun y5 => ((yx (IntKind.i64.wrap (y5 - 1))).bind fun y6 => (bif (y6 == 0) then some ((ya.mk (yb.mk 0 0 0 0 0 0 0 0 0 0 0) 0 0 0 0 0 0 0 0 0 0 0 0), 0, 0, 0, false) else (bif (!y6 == 0) then (bif (Int.tmod y0.2.1 y6 != 0) then some ((ya.mk (yb.mk 0 0 0 0 0 0 0 0 0 0 0) 0 0 0 0 0 0 0 0 0 0 0 0), 0, 0, 0, false) else (bif (!y6 == 0) then ((y0z nw cur l2 y0.1 (IntKind.i64.wrap (y5 - 1))).bind fun y7 => ((y3j y7 (IntKind.i64.wrap (Int.tdiv y0.2.1 y6))).bind fun y8 => (bif (!y8) then some ((ya.mk (yb.mk 0 0 0 0 0 0 0 0 0 0 0) 0 0 0 0 0 0 0 0 0 0 0 0), 0, 0, 0, false) else (bif (!y6 == 0) then some (l2, y0.1, (IntKind.i64.wrap (y5 - 1)), (IntKind.i64.wrap (Int.tdiv y0.2.1 y6)), true) else none)))) else none)) else none))))))
def y2w (nw : Nat) (cur : List Int) (l2 : ya) (a : Int) : Option (Bool × (List Int)) :=
  ((y2a nw cur l2 a).bind fun y0 => (bif y0.2.2.2.2 then ((y0z nw cur y0.1 y0.2.1 y0.2.2.1).bind fun y1 => ((y3n y1 y0.2.2.2.1).bind fun y2 => ((y1g nw cur y0.1 y0.2.1 y0.2.2.1).bind fun y3 => ((y2k nw cur y0.1 y0.2.1 y0.2.2.1 y2 (IntKind.i64.wrap (y3 + 1))).bind fun y4 => some (true, y4))))) else some (false, cur)))
def y1z (nw : Nat) (cur : List Int) (l2 : ya) (a : Int) : Option (Int × Bool) :=
  ((y2a nw cur l2 a).bind fun y0 => (bif y0.2.2.2.2 then some (y0.2.2.1, true) else some (y0.2.2.1, false)))
def y6l (nw : Nat) (cur : List Int) (l2 : ya) (c t11 : Int) (many t12 : Int) : Option ((Int × Int) ⊕ Int) :=
  (bif (decide (t12 < t11)) then ((yx c).bind fun y0 => (bif (decide (y0 > 0)) then ((yf nw cur l2 t12).bind fun y1 => (bif (y1 == IntKind.i64.wrap (c + 1)) then ((yn c).bind fun y2 => ((y09 l2 t12).bind fun y3 => (bif (inR y3 nw) then ((yn c).bind fun y4 => ((y1v (rd cur y3) y4).bind fun y5 => some (.inl ((IntKind.i64.wrap (many + IntKind.i64.wrap (y2 - y5))), (IntKind.i64.wrap (t12 + 1)))))) else none))) else some (.inl (many, (IntKind.i64.wrap (t12 + 1)))))) else some (.inl (many, (IntKind.i64.wrap (t12 + 1)))))) else some (.inr many))
def yd3 (nw : Nat) (cur : List Int) (l2 : ya) (c t11 : Int) (s : Int × Int) : Option Int :=
  loopO (fun s => y6l nw cur l2 c t11 s.1 s.2) s
def y0l (nw : Nat) (cur : List Int) (l2 : ya) (c : Int) : Option Int :=
  ((yk l2).bind fun y0 => (yd3 nw cur l2 c y0.Pages (0, 0)))
attribute [local irreducible] Loop ex exF contK roundK retK at_ bodyOf mkEnv exFH
theorem yao : SpecOK Tryz.prog elTT 58 (y7a y1g) := by
  refine spec_of_exF (cfg := (yj7 y0p)) (yg rfl rfl rfl) (yc y78 (yc rd_ok yh)) (fn := Tryz.f58) (by kernel_rfl) (by kernel_rfl) (by kernel_rfl) ?_
  intro args H K h
  change ycf y1g args H K at h
  unfold ycf at h
  repeat first | (obtain ⟨_, h⟩ := h) | replace h := Des.el h
  subst_vars
  refine Eq.mpr (yoh y0p _ _ _ _ _ _ K) ?_
  unfold y1g at h
  revert h
  exact bind_So fun y0 => andV (by assumption) (req_So (fun h => h))
theorem yd6 : SpecOK Tryz.prog elTT 55 (y7e y0z) := by
  refine spec_of_exF (cfg := (yg0 y09)) (yg rfl rfl rfl) (yc y7h (yc rd_ok yh)) (fn := Tryz.f55) (by kernel_rfl) (by kernel_rfl) (by kernel_rfl) ?_
  intro args H K h
  change y8y y0z args H K at h
  unfold y8y at h
  repeat first | (obtain ⟨_, h⟩ := h) | replace h := Des.el h
  subst_vars
  refine Eq.mpr (yld y09 _ _ _ _ _ _ K) ?_
  unfold y0z at h
  revert h
  exact bind_So fun y0 => andV (by assumption) (req_So (fun h => h))
theorem yk3 : SpecOK Tryz.prog elTT 99 (y7n y3g) := by
  refine spec_of_exF (cfg := (y9m y3d)) (yg rfl rfl rfl) (yc yee yh) (fn := Tryz.f99) (by kernel_rfl) (by kernel_rfl) (by kernel_rfl) ?_
  intro args H K h
  change y6o y3g args H K at h
  unfold y6o at h
  repeat first | (obtain ⟨_, h⟩ := h) | replace h := Des.el h
  subst_vars
  refine Eq.mpr (yje y3d _ _ _ _ _ _ _ _ _ _ _ _ _ _ _ _ _ _ _ _ _ _ _ _ _ _ _ _ _ _ _ K) ?_
  unfold y3g at h
  revert h
  exact andV (by assumption) (bind_So fun y0 => fun h => h)
theorem okd_pages_page_turn_1 : SpecDOK Tryz.prog elTT 99 (y7n y3g) := by
  refine specD_of_exF (cfg := (y9m y3d)) (yg rfl rfl rfl) (yc yee yh) (fn := Tryz.f99) (by kernel_rfl) (by kernel_rfl) (by kernel_rfl) ?_
  intro args H K h
  change y6o y3g args H K at h
  unfold y6o at h
  repeat first | (obtain ⟨_, h⟩ := h) | replace h := Des.el h
  subst_vars
  refine Eq.mpr (yje y3d _ _ _ _ _ _ _ _ _ _ _ _ _ _ _ _ _ _ _ _ _ _ _ _ _ _ _ _ _ _ _ K) ?_
  unfold y3g at h
  revert h
  exact andV (by assumption) (bind_So fun y0 => fun h => h)
theorem ygf : SpecOK Tryz.prog elTT 56 (y7z y2k) := by
  refine spec_of_exFH (cfg := (yhj y1g y43 yn y49 y3g y09 y0p)) (yg rfl rfl rfl) (yc yao (yc yoi (yc y6p (yc ypm (yc yk3 (yc y7h (yc wr_ok (yc y78 yh)))))))) (sdC_ok okd_pages_page_turn_1) (fn := Tryz.f56) (by kernel_rfl) (by kernel_rfl) (by kernel_rfl) ?_
  intro args H K h
  change y7q y2k args H K at h
  unfold y7q at h
  repeat first | (obtain ⟨_, h⟩ := h) | replace h := Des.el h
  subst_vars
  refine Eq.mpr (ylg y1g y43 yn y49 y3g y09 y0p _ _ _ _ _ _ _ _ K) ?_
  unfold y2k at h
  revert h
  exact andV (by assumption) (bind_So fun y0 => andV (by assumption) (bind_So fun y1 => bind_So fun y2 => br_So (andV (by assumption) (bind_So fun y3 => fun h => h)) (bind_So fun y4 => andV (by assumption) (req_So (bind_So fun y5 => andV (by assumption) (req_So (andV (by assumption) (bind_So fun y6 => fun h => h))))))))
theorem yq4 : SpecOK Tryz.prog elTT 53 (yhd y2x) := by
  refine spec_of_exF (cfg := (yil yx y2t y46 y3i y0p yn)) (yg rfl rfl rfl) (yc y5z (yc yek (yc yk5 (yc ym4 (yc y78 (yc y6p (yc wr_ok yh))))))) (fn := Tryz.f53) (by kernel_rfl) (by kernel_rfl) (by kernel_rfl) ?_
  intro args H K h
  change ybi y2x args H K at h
  unfold ybi at h
  repeat first | (obtain ⟨_, h⟩ := h) | replace h := Des.el h
  subst_vars
  refine Eq.mpr (ylt yx y2t y46 y3i y0p yn _ _ _ _ _ K) ?_
  unfold y2x at h
  revert h
  exact bind_So fun y0 => br_So (fun h => h) (andV (by assumption) (bind_So fun y1 => br_So (fun h => h) (andV (by assumption) (bind_So fun y2 => andV (by assumption) (bind_So fun y3 => br_So (fun h => h) (bind_So fun y4 => bind_So fun y5 => andV (by assumption) (req_So (fun h => h))))))))
theorem yh4 : SpecOK Tryz.prog elTT 25 (yd7 y0n) := by
  refine spec_of_exF (cfg := (ydc y2x y0z yn y59 y3w y1g y2k y3p yx)) (yg rfl rfl rfl) (yc yq4 (yc yd6 (yc y6p (yc yo4 (yc yoz (yc yao (yc ygf (yc ypi (yc y5z yh))))))))) (fn := Tryz.f25) (by kernel_rfl) (by kernel_rfl) (by kernel_rfl) ?_
  intro args H K h
  change y8h y0n args H K at h
  unfold y8h at h
  repeat first | (obtain ⟨_, h⟩ := h) | replace h := Des.el h
  subst_vars
  refine Eq.mpr (yn0 y2x y0z yn y59 y3w y1g y2k y3p yx _ _ _ _ _ K) ?_
  unfold y0n at h
  revert h
  exact andV (by assumption) (bind_So fun y0 => br_So (andV (by assumption) (bind_So fun y1 => bind_So fun y2 => bind_So fun y3 => andV (by assumption) (bind_So fun y4 => bind_So fun y5 => andV (by assumption) (bind_So fun y6 => andV (by assumption) (bind_So fun y7 => bind_So fun y8 => bind_So fun y9 => fun h => h))))) (fun h => h))
theorem yov : SpecOK Tryz.prog elTT 24 (yez y2z) := by
  refine spec_of_exF (cfg := (yif y2t)) (yg rfl rfl rfl) (yc yek yh) (fn := Tryz.f24) (by kernel_rfl) (by kernel_rfl) (by kernel_rfl) ?_
  intro args H K h
  change yce y2z args H K at h
  unfold yce at h
  repeat first | (obtain ⟨_, h⟩ := h) | replace h := Des.el h
  subst_vars
  refine Eq.mpr (yp1 y2t _ _ _ _ _ K) ?_
  unfold y2z at h
  revert h
  exact andV (by assumption) (bind_So fun y0 => fun h => h)
theorem ydd : SpecOK Tryz.prog elTT 64 (y99 y2a) := by
  refine spec_of_exF (cfg := (yia y4b yf yx y0z y3j)) (yg rfl rfl rfl) (yc yop (yc y5g (yc y5z (yc yd6 (yc yqj yh))))) (fn := Tryz.f64) (by kernel_rfl) (by kernel_rfl) (by kernel_rfl) ?_
  intro args H K h
  change yac y2a args H K at h
  unfold yac at h
  repeat first | (obtain ⟨_, h⟩ := h) | replace h := Des.el h
  subst_vars
  refine Eq.mpr (yl9 y4b yf yx y0z y3j _ _ _ _ _ K) ?_
  unfold y2a at h
  revert h
  exact bind_So fun y0 => br_So (fun h => h) (alt_So (andV (by assumption) (bind_So fun y1 => bind_So fun y2 => br_So (fun h => h) (req_So (br_So (fun h => h) (req_So (andV (by assumption) (bind_So fun y3 => bind_So fun y4 => br_So (fun h => h) (req_So (fun h => h))))))))) (andV (by assumption) (bind_So fun y5 => bind_So fun y6 => br_So (fun h => h) (req_So (br_So (fun h => h) (req_So (andV (by assumption) (bind_So fun y7 => bind_So fun y8 => br_So (fun h => h) (req_So (fun h => h))))))))))
theorem yo0 : SpecOK Tryz.prog elTT 30 (yer y2w) := by
  refine spec_of_exF (cfg := (yj2 y2a y0z y3n y1g y2k)) (yg rfl rfl rfl) (yc ydd (yc yd6 (yc ypx (yc yao (yc ygf yh))))) (fn := Tryz.f30) (by kernel_rfl) (by kernel_rfl) (by kernel_rfl) ?_
  intro args H K h
  change y7p y2w args H K at h
  unfold y7p at h
  repeat first | (obtain ⟨_, h⟩ := h) | replace h := Des.el h
  subst_vars
  refine Eq.mpr (yl2 y2a y0z y3n y1g y2k _ _ _ _ _ K) ?_
  unfold y2w at h
  revert h
  exact andV (by assumption) (bind_So fun y0 => br_So (andV (by assumption) (bind_So fun y1 => bind_So fun y2 => andV (by assumption) (bind_So fun y3 => andV (by assumption) (bind_So fun y4 => fun h => h)))) (fun h => h))
theorem ylx : SpecOK Tryz.prog elTT 42 (yj8 y1z) := by
  refine spec_of_exF (cfg := (yi2 y2a)) (yg rfl rfl rfl) (yc ydd yh) (fn := Tryz.f42) (by kernel_rfl) (by kernel_rfl) (by kernel_rfl) ?_
  intro args H K h
  change ya1 y1z args H K at h
  unfold ya1 at h
  repeat first | (obtain ⟨_, h⟩ := h) | replace h := Des.el h
  subst_vars
  refine Eq.mpr (ykp y2a _ _ _ _ _ K) ?_
  unfold y1z at h
  revert h
  exact andV (by assumption) (bind_So fun y0 => br_So (fun h => h) (fun h => h))
theorem lpok_pages_Free_L1 (ws cur : List Int) (xs : List Value) (l2 : ya) (c many : Int) (t11 t12 : Int) (K : V → Heap → Prop) (hx : xs.length ≤ 2) : So (yd3 ws.length cur l2 c t11 (many, t12)) (fun (x : Int) => K (vi x) (hV ws cur xs)) → Loop (y4w yk yx yf yn y09 y1v) (⟨42, 2⟩ : Cx) (at_ (bodyOf Tryz.f29) [1, 1, 0, 1, 0, 0]) (mkEnv [(0, .ptr 0 0), (2, vi c), (4, .ptr 2 0), (7, vi many), (11, vi t11), (12, vi t12)]) [.pk 0 [ws, cur] xs [.row 1], .row 0 ws true, .cells 28 (yd l2)] (contK (y4w yk yx yf yn y09 y1v) (⟨42, 2⟩ : Cx) (bodyOf Tryz.f29) [1, 1, 0, 1, 0] (retK (y4w yk yx yf yn y09 y1v) Tryz.f29 2 K)) := by
  refine loopK_So (fun (s_ : Int × Int) => (mkEnv [(0, .ptr 0 0), (2, vi c), (4, .ptr 2 0), (7, vi s_.1), (11, vi t11), (12, vi s_.2)])) (fun (s_ : Int × Int) => [.pk 0 [ws, cur] xs [.row 1], .row 0 ws true, .cells 28 (yd l2)]) (fun (x : Int) => K (vi x) (hV ws cur xs)) ?_ (many, t12)
  intro s_ J1 h
  clear many
  clear t12
  obtain ⟨many, t12⟩ := s_
  refine Eq.mpr (ynv yk yx yf yn y09 y1v ws cur xs l2 c many t11 t12 K J1) ?_
  have h : So (y6l ws.length cur l2 c t11 many t12) _ := h
  unfold y6l at h
  revert h
  exact br_So (bind_So fun y0 => br_So (andV hx (bind_So fun y1 => br_So (bind_So fun y2 => bind_So fun y3 => andV hx (req_So (bind_So fun y4 => bind_So fun y5 => fun h => h))) (fun h => h))) (fun h => h)) (fun h => h)
theorem ygy : SpecOK Tryz.prog elTT 29 (yb8 y0l) := by
  refine spec_of_exF (cfg := (y4w yk yx yf yn y09 y1v)) (yg rfl rfl rfl) (yc y5i (yc y5z (yc y5g (yc y6p (yc y7h (yc rd_ok (yc ym6 yh))))))) (fn := Tryz.f29) (by kernel_rfl) (by kernel_rfl) (by kernel_rfl) ?_
  intro args H K h
  change y9p y0l args H K at h
  unfold y9p at h
  repeat first | (obtain ⟨_, h⟩ := h) | replace h := Des.el h
  subst_vars
  refine Eq.mpr (ymj yk yx yf yn y09 y1v _ _ _ _ _ K) ?_
  unfold y0l at h
  revert h
  exact bind_So fun y0 => lpok_pages_Free_L1 _ _ _ _ _ _ _ _ K (by assumption)
end Go.Rx
end

section
namespace Go.Rx
def sizeC (c : Int) : Int := if c = 0 then 1 else if c = 1 then 2 else if c = 2 then 4 else if c = 3 then 8 else if c = 4 then 16 else 0
theorem sizeC_in {c : Int} (h : 0 ≤ c ∧ c < 5) : 1 ≤ sizeC c ∧ sizeC c ≤ 16 ∧ slotsC c * sizeC c = 32 := by
  have e : c = 0 ∨ c = 1 ∨ c = 2 ∨ c = 3 ∨ c = 4 := by omega
  rcases e with rfl | rfl | rfl | rfl | rfl <;> simp [sizeC, slotsC]
theorem sizeC_no {c : Int} (h : ¬ (0 ≤ c ∧ c < 5)) : sizeC c = 0 := by
  unfold sizeC
  rw [if_neg (by omega), if_neg (by omega), if_neg (by omega), if_neg (by omega), if_neg (by omega)]
theorem slotsC_no {c : Int} (h : ¬ (0 ≤ c ∧ c < 5)) : slotsC c = 0 := by
  unfold slotsC
  rw [if_neg (by omega), if_neg (by omega), if_neg (by omega), if_neg (by omega), if_neg (by omega)]
theorem firstF_is {ls : Int → Int → List Int} {c : Int} : ∀ (n : Nat) (f : Int), (firstF ls c f n = -1 ∧ ∀ g, f ≤ g → g < f + n → ls c g = []) ∨
    (∃ g x r, f ≤ g ∧ g < f + n ∧ ls c g = x :: r ∧ firstF ls c f n = x ∧ ∀ g', f ≤ g' → g' < g → ls c g' = [])
  | 0, f => .inl ⟨rfl, fun g h1 h2 => by omega⟩
  | n + 1, f => by
    cases hl : ls c f with
    | cons x r => exact .inr ⟨f, x, r, by omega, by omega, hl, by simp [firstF, hl], fun g' h1 h2 => by omega⟩
    | nil =>
      have e : firstF ls c f (n + 1) = firstF ls c (f + 1) n := by simp [firstF, hl]
      rw [e]
      rcases firstF_is n (f + 1) with ⟨h1, h2⟩ | ⟨g, x, r, h1, h2, h3, h4, h5⟩
      · refine .inl ⟨h1, fun g k1 k2 => ?_⟩
        by_cases hg : g = f
        · rw [hg]; exact hl
        · exact h2 g (by omega) (by omega)
      · refine .inr ⟨g, x, r, by omega, by omega, h3, h4, fun g' k1 k2 => ?_⟩
        by_cases hg : g' = f
        · rw [hg]; exact hl
        · exact h5 g' (by omega) (by omega)
variable {L : ya} {nw : Nat} {cur u inn : List Int} {ls : Int → Int → List Int}
theorem page_at (v : VOK L nw cur) {p : Int} (hp : 0 ≤ p ∧ p < L.c.Pages) : inR (L.at_1 + p) nw = true ∧ inR (L.at_2 + p) nw = true ∧ inR (L.at_3 + p) nw = true := by
  have := v.lay.geo11; have := v.all
  exact ⟨inR_int (by omega) (by omega), inR_int (by omega) (by omega), inR_int (by omega) (by omega)⟩
theorem lPg_in {at_ p : Int} (hp : 0 ≤ p ∧ p < L.c.Pages) : lPg L at_ p = at_ + p := if_pos hp
theorem left_eq (v : VOK L nw cur) {p : Int} (hp : 0 ≤ p ∧ p < L.c.Pages) (c : Int) : y1g nw cur L p c = some (cw L cur p) := by
  unfold y1g
  rw [Count_eq v.lay, Option.bind_some, lPg_in hp, (page_at v hp).2.1]
  rfl
theorem bits_eq (v : VOK L nw cur) {p : Int} (hp : 0 ≤ p ∧ p < L.c.Pages) (c : Int) : y0z nw cur L p c = some (bw L cur p) := by
  unfold y0z
  rw [Bits_eq v.lay, Option.bind_some, lPg_in hp, (page_at v hp).2.2]
  rfl
theorem drop_page (h : LayOK L) (hn : L.at_11 ≤ (cur.length : Int)) {p n c : Int} (hp : 0 ≤ p ∧ p < L.c.Pages) (hc : 0 ≤ c ∧ c < 5) (hk : kw L cur p = c + 1) (l : RunLen L.at_1 L.c.Pages cur p n) (t : Ran L.at_1 L.c.Pages cur u p n 0) : u = setP L.at_1 L.c.Pages cur p 0 0 := by
  have e : n = 1 := l.one (by rw [knd_in hp]; show kw L cur p ≠ 6; omega)
  subst e
  have g := GeoKL h hn
  have s := (Ran.zero L.at_1 L.c.Pages cur p 0).step g hp.1 (by omega) (by omega)
  rw [Int.add_zero, Int.zero_add] at s
  exact t.uniq s
theorem pturn_eq (v : VOK L nw cur) (r : RepW L.at_4 L.c.Pages cur inn ls) {p c n b : Int} (hp : 0 ≤ p ∧ p < L.c.Pages) (hc : 0 ≤ c ∧ c < 5) (hk : kw L cur p = c + 1) {inn1 : List Int} {ls1 : Int → Int → List Int}
    (r1 : RepW L.at_4 L.c.Pages (unl L ls cur p c (cw L cur p)) inn1 ls1) (hlen : (unl L ls cur p c (cw L cur p)).length = cur.length)
    (hoff : ∀ b, 0 ≤ b → (b < L.at_4 ∨ L.at_4 + 2 * L.c.Pages + 62 ≤ b) → wd (unl L ls cur p c (cw L cur p)) b = wd cur b) :
    y2k nw cur L p c b n = some (turnW L (unl L ls cur p c (cw L cur p)) p c b n) := by
  have g := v.lay.geo11
  unfold y2k
  rw [left_eq v hp, Option.bind_some, Unlink_eq v (xs := ls c (cw L cur p)) (fun k => r.lst _ _ k), Option.bind_some, Slots_eq, Option.bind_some]
  have e2 : (if isL c (cw L cur p) ∧ p ∈ ls c (cw L cur p) then (true, unlinkW L.at_4 L.c.Pages cur (hdI (L.at_4 + 2 * L.c.Pages) c (cw L cur p)) p) else (false, cur)).2 = unl L ls cur p c (cw L cur p) := by unfold unl; split <;> rfl
  rw [e2]
  generalize unl L ls cur p c (cw L cur p) = x at *
  have vx : VOK L nw x := ⟨v.lay, hlen.trans v.len, v.all⟩
  have hkx : kw L x p = c + 1 := (hoff _ (by omega) (.inl (by omega))).trans hk
  unfold turnW
  by_cases hs : n = slotsC c
  · rw [if_pos hs, beq_iff_eq.2 hs, cond_true]
    obtain ⟨k, y, e, h⟩ := eDrop_eq vx p
    rw [e, Option.bind_some]
    have hkn : knd L.at_1 L.c.Pages x p = c + 1 := (knd_in hp).trans hkx
    rcases h with ⟨_, _, h3, h4⟩ | ⟨h1, _⟩
    · exact congrArg some (drop_page v.lay (by have := vx.len; have := vx.all; omega) hp hc hkx h3 h4)
    · exact absurd ⟨by rw [hkn]; omega, by rw [hkn]; omega⟩ h1
  · rw [if_neg hs, beq_eq_false_iff_ne.2 hs, cond_false]
    rw [Bits_eq v.lay, Option.bind_some, lPg_in hp, (page_at v hp).2.2, cond_true, Count_eq v.lay, Option.bind_some, lPg_in hp, (page_at v hp).2.1, cond_true]
    have hw : wr (wr x (L.at_3 + p) b) (L.at_2 + p) n = (x.set (L.at_3 + p).toNat b).set (L.at_2 + p).toNat n := rfl
    rw [hw]
    have hxl : (x.length : Int) ≥ L.at_11 := by have := vx.len; have := vx.all; omega
    have hyw : ∀ b', 0 ≤ b' → wd ((x.set (L.at_3 + p).toNat b).set (L.at_2 + p).toNat n) b' = if b' = L.at_2 + p then n else if b' = L.at_3 + p then b else wd x b' := fun b' hb => by
      rw [wd_set (by rw [List.length_set]; omega) hb, wd_set (by omega) hb]
    have vy : VOK L nw ((x.set (L.at_3 + p).toNat b).set (L.at_2 + p).toNat n) := ⟨v.lay, by rw [List.length_set, List.length_set]; exact vx.len, v.all⟩
    have ry : RepW L.at_4 L.c.Pages ((x.set (L.at_3 + p).toNat b).set (L.at_2 + p).toNat n) inn1 ls1 := r1.congr (by omega) (by omega) (fun b' h0 h1 => by rw [hyw b' (by omega), if_neg (by omega), if_neg (by omega)])
    generalize (x.set (L.at_3 + p).toNat b).set (L.at_2 + p).toNat n = y at *
    show ((y3d nw y L p c n).bind fun y0 => some (Prod.snd y0)).bind (fun y6 => some y6) = _
    rw [Link_eq vy (xs := ls1 c n) (fun k => ry.lst _ _ k), Option.bind_some, Option.bind_some]
    by_cases hL : isL c n
    · rw [if_pos ⟨hL, hp⟩, if_pos hL]
    · rw [if_neg (fun x => hL x.1), if_neg hL]
structure Tk (L : ya) (w : List Int) (a p c : Int) (m : Nat) (i : Int) : Prop where
  user : L.at_10 ≤ a ∧ a < L.at_11
  page : p = (a - L.at_10) / 32
  cls : 0 ≤ c ∧ c < 5
  kind : kw L w p = c + 1
  bits : bw L w p = m
  mul : (a - L.at_10) % 32 % sizeC c = 0
  num : i = (a - L.at_10) % 32 / sizeC c
  is : m.testBit i.toNat = true
theorem Tk.more {w : List Int} {a p c i : Int} {m : Nat} (h : LayOK L) (t : Tk L w a p c m i) : (0 ≤ p ∧ p < L.c.Pages) ∧ (0 ≤ i ∧ i < slotsC c) ∧ a = L.at_10 + p * 32 + i * sizeC c := by
  obtain ⟨⟨h1, h2⟩, rfl, hc, _, _, hm, rfl, _⟩ := t
  have := h.geo11
  have e : c = 0 ∨ c = 1 ∨ c = 2 ∨ c = 3 ∨ c = 4 := by omega
  refine ⟨⟨by omega, by omega⟩, ?_⟩
  rcases e with rfl | rfl | rfl | rfl | rfl <;> simp [sizeC, slotsC] at * <;> omega
theorem pat_eq (v : VOK L nw cur) (i : Inv11 L cur inn ls) (a : Int) :
    (∃ p c m j, Tk L cur a p c m j ∧ ClsOK L cur inn p c m ∧ y2a nw cur L a = some (L, p, c, j, true)) ∨
    ((∀ p c m j, ¬ Tk L cur a p c m j) ∧ ∃ L0, y2a nw cur L a = some (L0, 0, 0, 0, false)) := by
  have g := v.lay.geo11
  unfold y2a
  rw [Place_eq v.lay, Option.bind_some]
  unfold lPlace
  by_cases hu : L.at_10 ≤ a ∧ a < L.at_11
  · rw [if_pos hu]
    simp only [Bool.not_true, cond_false]
    generalize hpd : (a - L.at_10) / 32 = p
    have hp : 0 ≤ p ∧ p < L.c.Pages := by omega
    rw [eKind_eq v, Option.bind_some, knd_in hp]
    have hkw : wd cur (L.at_1 + p) = kw L cur p := rfl
    rw [hkw]
    rcases i.pg p hp.1 hp.2 with f | ⟨c, m, f⟩
    · rw [f.kind, show IntKind.wrap .i64 (0 - 1) = -1 from rfl, Size_eq]
      refine .inr ⟨fun p' c' m' j t => ?_, _, rfl⟩
      have := t.page; have := t.kind; have := t.cls
      rw [hpd] at *
      subst p'
      have := f.kind
      omega
    · have hc := f.cls
      obtain ⟨z1, z2, z3⟩ := sizeC_in hc
      obtain ⟨s1, s2, s3⟩ := slots_pow hc
      rw [f.kind, wrap_id (by omega) (by omega), show c + 1 - 1 = c by omega, Size_eq, Option.bind_some]
      have hsz : (if c = 0 then 1 else if c = 1 then 2 else if c = 2 then 4 else if c = 3 then 8 else if c = 4 then 16 else 0) = sizeC c := rfl
      rw [hsz, beq_eq_false_iff_ne.2 (show sizeC c ≠ 0 by omega)]
      simp only [Bool.not_false, cond_true, cond_false]
      have hx : 0 ≤ (a - L.at_10) % 32 ∧ (a - L.at_10) % 32 < 32 := by omega
      have same : ∀ p' c' m' j, Tk L cur a p' c' m' j → p' = p ∧ c' = c ∧ m' = m := by
        intro p' c' m' j t
        have e1 : p' = p := t.page.trans hpd
        subst e1
        have := t.kind; have := f.kind
        have e3 : (m' : Int) = m := t.bits.symm.trans f.bits
        exact ⟨rfl, by omega, by omega⟩
      rw [Int.tmod_eq_emod_of_nonneg hx.1, Int.tdiv_eq_ediv_of_nonneg hx.1]
      by_cases hm : (a - L.at_10) % 32 % sizeC c = 0
      · have hj : 0 ≤ (a - L.at_10) % 32 / sizeC c ∧ (a - L.at_10) % 32 / sizeC c < 32 := by
          have e : c = 0 ∨ c = 1 ∨ c = 2 ∨ c = 3 ∨ c = 4 := by omega
          rcases e with rfl | rfl | rfl | rfl | rfl <;> simp [sizeC] <;> omega
        rw [hm, show ((0 : Int) != 0) = false from rfl, cond_false, bits_eq v hp, Option.bind_some, f.bits, wrap_id (by omega) (by omega), Has_eq (bits_lt f.lt s1), Option.bind_some]
        have hb : bitI m ((a - L.at_10) % 32 / sizeC c) = m.testBit ((a - L.at_10) % 32 / sizeC c).toNat := by unfold bitI; rw [decide_eq_true hj]; rfl
        rw [hb]
        cases ht : m.testBit ((a - L.at_10) % 32 / sizeC c).toNat with
        | true => exact .inl ⟨p, c, m, _, ⟨hu, hpd.symm, hc, f.kind, f.bits, hm, rfl, ht⟩, f, rfl⟩
        | false =>
          refine .inr ⟨fun p' c' m' j t => ?_, _, rfl⟩
          obtain ⟨rfl, rfl, rfl⟩ := same p' c' m' j t
          have := t.is
          rw [t.num, ht] at this
          cases this
      · rw [bne_iff_ne.2 hm]
        refine .inr ⟨fun p' c' m' j t => ?_, _, rfl⟩
        obtain ⟨rfl, rfl, rfl⟩ := same p' c' m' j t
        exact hm t.mul
  · rw [if_neg hu]
    exact .inr ⟨fun p c m j t => hu t.user, _, rfl⟩
theorem pTaken_eq (v : VOK L nw cur) (i : Inv11 L cur inn ls) (a : Int) :
    (∃ p c m j, Tk L cur a p c m j ∧ y1z nw cur L a = some (c, true)) ∨ ((∀ p c m j, ¬ Tk L cur a p c m j) ∧ y1z nw cur L a = some (0, false)) := by
  unfold y1z
  rcases pat_eq v i a with ⟨p, c, m, j, h1, _, h3⟩ | ⟨h1, L0, h2⟩
  · exact .inl ⟨p, c, m, j, h1, by rw [h3]; rfl⟩
  · exact .inr ⟨h1, by rw [h2]; rfl⟩
inductive RetS (L : ya) (ls : Int → Int → List Int) (w : List Int) (a : Int) : Bool → List Int → Prop
  | no : (∀ p c m j, ¬ Tk L w a p c m j) → RetS L ls w a false w
  | yes {p c : Int} {m : Nat} {j : Int} : Tk L w a p c m j → RetS L ls w a true (turnW L (unl L ls w p c (cw L w p)) p c ((m - 2 ^ j.toNat : Nat) : Int) (cw L w p + 1))
theorem RetS.uniq {w : List Int} {a : Int} {b b' : Bool} {x x' : List Int} (h : RetS L ls w a b x) (h' : RetS L ls w a b' x') : b = b' ∧ x = x' := by
  cases h with
  | no h =>
    cases h' with
    | no _ => exact ⟨rfl, rfl⟩
    | yes t => exact absurd t (h _ _ _ _)
  | @yes p c m j t =>
    cases h' with
    | no h => exact absurd t (h _ _ _ _)
    | @yes p' c' m' j' t' =>
      have e1 : p = p' := t.page.trans t'.page.symm
      subst e1
      have e2 : c = c' := by have := t.kind; have := t'.kind; omega
      subst e2
      have e3 : m = m' := by have := t.bits; have := t'.bits; omega
      subst e3
      have e4 : j = j' := t.num.trans t'.num.symm
      subst e4
      exact ⟨rfl, rfl⟩
theorem cls_rep (h : LayOK L) (hn : L.at_11 ≤ (cur.length : Int)) (r : RepW L.at_4 L.c.Pages cur inn ls) {p c : Int} {m : Nat} (hp : 0 ≤ p ∧ p < L.c.Pages) (f : ClsOK L cur inn p c m) :
    ∃ ls', RepW L.at_4 L.c.Pages (unl L ls cur p c (cw L cur p)) (inn.set p.toNat 0) ls' ∧ (unl L ls cur p c (cw L cur p)).length = cur.length ∧ ∀ b, 0 ≤ b → (b < L.at_4 ∨ L.at_4 + 2 * L.c.Pages + 62 ≤ b) → wd (unl L ls cur p c (cw L cur p)) b = wd cur b := by
  have := popN_le m (slotsC c).toNat
  have := f.left; have := f.used; have := slots_pow f.cls
  exact unl_rep h hn r hp f.cls (by omega) f.linked
theorem pReturn_eq (v : VOK L nw cur) (i : Inv11 L cur inn ls) (a : Int) : ∃ b x, y2w nw cur L a = some (b, x) ∧ RetS L ls cur a b x := by
  unfold y2w
  rcases pat_eq v i a with ⟨p, c, m, j, t, f, e⟩ | ⟨h1, L0, e⟩
  · rw [e, Option.bind_some]
    obtain ⟨hp, hj, _⟩ := t.more v.lay
    obtain ⟨s1, s2, s3⟩ := slots_pow f.cls
    have hpop := popN_le m (slotsC c).toNat
    have hleft := f.left; have hused := f.used
    have hn : L.at_11 ≤ (cur.length : Int) := by have := v.len; have := v.all; omega
    obtain ⟨ls', r1, hlen, hoff⟩ := cls_rep v.lay hn i.rep hp f
    simp only [cond_true]
    rw [bits_eq v hp, Option.bind_some, f.bits, Clear_eq (bits_lt f.lt s1) (by omega) t.is, Option.bind_some, left_eq v hp, Option.bind_some, wrap_id (by omega) (by omega), pturn_eq v i.rep hp f.cls f.kind r1 hlen hoff]
    exact ⟨_, _, rfl, .yes t⟩
  · rw [e, Option.bind_some]
    exact ⟨_, _, rfl, .no h1⟩
theorem RetS.inv {w x : List Int} {a : Int} {b : Bool} (h : LayOK L) (hn : L.at_11 ≤ (w.length : Int)) (i : Inv11 L w inn ls) (s : RetS L ls w a b x) : x.length = w.length ∧ ∃ inn' ls', Inv11 L x inn' ls' := by
  cases s with
  | no _ => exact ⟨rfl, _, _, i⟩
  | @yes p c m j t =>
    obtain ⟨hp, hj, _⟩ := t.more h
    obtain ⟨s1, s2, s3⟩ := slots_pow t.cls
    have f : ClsOK L w inn p c m := by
      rcases i.pg p hp.1 hp.2 with f | ⟨c', m', f⟩
      · have := f.kind; have := t.kind; have := t.cls; omega
      · have e1 : c' = c := by have := f.kind; have := t.kind; omega
        subst e1
        have e2 : m' = m := by have := f.bits; have := t.bits; omega
        subst e2
        exact f
    obtain ⟨ls', r1, hlen, hoff⟩ := cls_rep h hn i.rep hp f
    have hs := popN_sub (k := (slotsC c).toNat) (by omega) t.is
    have hleft := f.left
    refine ⟨by rw [turnW_len, hlen], turn_inv h hn hp (fun q h0 h1 _ => i.pg q h0 h1) r1 hlen hoff t.cls t.kind (Nat.lt_of_le_of_lt (Nat.sub_le _ _) f.lt) (by omega)⟩
theorem pRoom_eq (v : VOK L nw cur) (i : Inv11 L cur inn ls) (c : Int) : y2z nw cur L c = some (decide (0 ≤ firstF ls c 1 (slotsC c).toNat)) := by
  unfold y2z
  rw [pFirst_eq v (ls := ls) (fun f k => i.rep.lst _ _ k), Option.bind_some]
def freeN (L : ya) (w : List Int) (c : Int) : Nat → Int
  | 0 => 0
  | k + 1 => freeN L w c k + if (0 ≤ c ∧ c < 5) ∧ kw L w k = c + 1 then slotsC c - popN (bw L w k).toNat (slotsC c).toNat else 0
theorem freeN_le (L : ya) (w : List Int) (c : Int) : ∀ k, 0 ≤ freeN L w c k ∧ freeN L w c k ≤ 32 * k
  | 0 => by simp [freeN]
  | k + 1 => by
    have := freeN_le L w c k
    have := slotsC_le c
    have := popN_le (bw L w k).toNat (slotsC c).toNat
    simp only [freeN]
    split <;> omega
theorem pFree_eq (v : VOK L nw cur) (i : Inv11 L cur inn ls) (c : Int) : y0l nw cur L c = some (freeN L cur c L.c.Pages.toNat) := by
  have hpg := v.lay.pages
  have key : ∀ d k : Nat, L.c.Pages.toNat - k = d → (k : Int) ≤ L.c.Pages → yd3 nw cur L c L.c.Pages (freeN L cur c k, (k : Int)) = some (freeN L cur c L.c.Pages.toNat) := by
    intro d
    induction d with
    | zero =>
      intro k hd hk
      have e : k = L.c.Pages.toNat := by omega
      subst e
      exact loopO_end (by simp only [y6l, decide_eq_false (show ¬ ((L.c.Pages.toNat : Int) < L.c.Pages) by omega), cond_false])
    | succ d ih =>
      intro k hd hk
      have hp : 0 ≤ (k : Int) ∧ (k : Int) < L.c.Pages := by omega
      have hb := freeN_le L cur c k
      have hb1 := freeN_le L cur c (k + 1)
      refine (loopO_go (s' := (freeN L cur c (k + 1), ((k + 1 : Nat) : Int))) ?_).trans (ih (k + 1) (by omega) (by omega))
      simp only [y6l, decide_eq_true hp.2, cond_true, Size_eq, Option.bind_some]
      rw [show (if c = 0 then 1 else if c = 1 then 2 else if c = 2 then 4 else if c = 3 then 8 else if c = 4 then 16 else 0) = sizeC c from rfl, wrap_id (x := (k : Int) + 1) (by omega) (by omega)]
      simp only [freeN]
      by_cases hc : 0 ≤ c ∧ c < 5
      · obtain ⟨z1, z2, z3⟩ := sizeC_in hc
        obtain ⟨s1, s2, s3⟩ := slots_pow hc
        rw [decide_eq_true (show sizeC c > 0 by omega), cond_true, eKind_eq v, Option.bind_some, knd_in hp, wrap_id (x := c + 1) (by omega) (by omega)]
        have hkw : wd cur (L.at_1 + (k : Int)) = kw L cur k := rfl
        rw [hkw]
        by_cases hk1 : kw L cur k = c + 1
        · rw [beq_iff_eq.2 hk1, cond_true, if_pos ⟨hc, hk1⟩, Slots_eq, Option.bind_some, Bits_eq v.lay, Option.bind_some, lPg_in hp, (page_at v hp).2.2, cond_true]
          rcases i.pg k hp.1 hp.2 with f | ⟨c', m, f⟩
          · have := f.kind; omega
          · have e1 : c' = c := by have := f.kind; omega
            subst e1
            have hrd : rd cur (L.at_3 + (k : Int)) = (m : Int) := f.bits
            have hbw : bw L cur k = (m : Int) := f.bits
            have hpop := popN_le m (slotsC c').toNat
            rw [hrd, hbw, Int.toNat_natCast]
            have hcnt : y1v (m : Int) (slotsC c') = some (popN m (slotsC c').toNat : Int) := by
              have := Count_is (bits_lt f.lt s1) s1
              rw [s3] at this
              exact this
            rw [Option.bind_some, hcnt, Option.bind_some, wrap_id (x := slotsC c' - (popN m (slotsC c').toNat : Int)) (by omega) (by omega), wrap_id (by omega) (by omega)]
            rfl
        · rw [beq_eq_false_iff_ne.2 hk1, cond_false, if_neg (fun x => hk1 x.2), Int.add_zero]
          rfl
      · rw [sizeC_no hc, if_neg (fun x => hc x.1), Int.add_zero]
        rfl
  unfold y0l
  rw [Config_eq, Option.bind_some]
  exact key _ 0 rfl (by omega)
end Go.Rx
end

section
namespace Go.Rx
variable {L : ya} {nw : Nat} {cur u inn : List Int} {ls : Int → Int → List Int}
theorem first_cls {w : List Int} {c p : Int} (i : Inv11 L w inn ls) (hc : 0 ≤ c ∧ c < 5) (hf : firstF ls c 1 (slotsC c).toNat = p) :
    (p = -1 ∧ ∀ q, 0 ≤ q → q < L.c.Pages → kw L w q = c + 1 → cw L w q = 0) ∨
    ((0 ≤ p ∧ p < L.c.Pages) ∧ (∃ m, ClsOK L w inn p c m) ∧ 1 ≤ cw L w p ∧ p ∈ ls c (cw L w p) ∧ ∀ q, 0 ≤ q → q < L.c.Pages → kw L w q = c + 1 → cw L w q = 0 ∨ cw L w p ≤ cw L w q) := by
  obtain ⟨s1, s2, s3⟩ := slots_pow hc
  have key : ∀ q, 0 ≤ q → q < L.c.Pages → kw L w q = c + 1 → cw L w q = 0 ∨ (isL c (cw L w q) ∧ q ∈ ls c (cw L w q)) := fun q h0 h1 hk => by
    rcases i.pg q h0 h1 with f | ⟨c', m, f⟩
    · have := f.kind; omega
    · have e1 : c' = c := by have := f.kind; omega
      subst e1
      have hl := f.linked; have hu := f.used; have := f.left; have := popN_le m (slotsC c').toNat
      by_cases z : cw L w q = 0
      · exact .inl z
      · rw [if_neg z] at hl
        have hL : isL c' (cw L w q) := ⟨hc, by omega, by omega⟩
        exact .inr ⟨hL, (i.rep.mem _ _ hL q).2 ⟨⟨h0, h1⟩, hl⟩⟩
  rcases firstF_is (ls := ls) (c := c) (slotsC c).toNat 1 with ⟨h1, h2⟩ | ⟨g, x, r, h1, h2, h3, h4, h5⟩
  · refine .inl ⟨by omega, fun q q0 q1 hk => ?_⟩
    rcases key q q0 q1 hk with z | ⟨hL, hm⟩
    · exact z
    · have := hL.2
      rw [h2 _ (by omega) (by omega)] at hm
      cases hm
  · have hL : isL c g := ⟨hc, h1, by omega⟩
    have hx : x ∈ ls c g := by rw [h3]; simp
    obtain ⟨hp, hl⟩ := (i.rep.mem c g hL x).1 hx
    have e : x = p := by omega
    subst e
    rcases i.pg x hp.1 hp.2 with f | ⟨c', m, f⟩
    · have := f.linked; omega
    · have hl' := f.linked; have hu := f.used; have hlf := f.left; have := popN_le m (slotsC c').toNat; have := slots_pow f.cls; have hc' := f.cls
      by_cases z : cw L w x = 0
      · rw [if_pos z] at hl'; omega
      · rw [if_neg z] at hl'
        have e1 : c' = c := by omega
        subst e1
        have e2 : cw L w x = g := by omega
        refine .inr ⟨hp, ⟨m, f⟩, by omega, by rw [e2]; exact hx, fun q q0 q1 hk => ?_⟩
        rcases key q q0 q1 hk with z | ⟨hL', hm⟩
        · exact .inl z
        · refine .inr (Int.not_lt.1 fun hlt => ?_)
          have := hL'.2
          rw [h5 _ (by omega) (by omega)] at hm
          cases hm
theorem find_free {w : List Int} {r : Int} (h : FindR L w 1 1 r) : (r = -1 ∧ ∀ q, 0 ≤ q → q < L.c.Pages → kw L w q ≠ 0) ∨ ((0 ≤ r ∧ r < L.c.Pages) ∧ kw L w r = 0) := by
  unfold FindR at h
  rw [if_pos (by omega)] at h
  rcases h with ⟨h0, h | ⟨h1, h2, h3, _⟩⟩ | ⟨_, ⟨h1, h2⟩ | ⟨h1, h2, h3, _⟩⟩
  · omega
  · have : knd L.at_1 L.c.Pages w r = 0 := (h3.all r (by omega) (by omega)).1
    rw [knd_in ⟨h1, h2⟩] at this
    exact .inr ⟨⟨h1, h2⟩, this⟩
  · refine .inl ⟨h1, fun q q0 q1 e => h2 q q0 q1 ⟨by omega, by omega, fun j j0 j1 => ?_⟩⟩
    have : j = q := by omega
    subst this
    show knd L.at_1 L.c.Pages w j = 0
    rw [knd_in ⟨q0, q1⟩]; exact e
  · have : knd L.at_1 L.c.Pages w r = 0 := h3.all r (by omega) (by omega)
    rw [knd_in ⟨h1, h2⟩] at this
    exact .inr ⟨⟨h1, h2⟩, this⟩
inductive GrabS (L : ya) (ls : Int → Int → List Int) (w : List Int) (c : Int) : Int → Bool → List Int → Prop
  | no : (¬ (0 ≤ c ∧ c < 5) ∨ (firstF ls c 1 (slotsC c).toNat = -1 ∧ ∀ q, 0 ≤ q → q < L.c.Pages → kw L w q ≠ 0)) → GrabS L ls w c 0 false w
  | old {p : Int} {m : Nat} {i : Int} : 0 ≤ c ∧ c < 5 → 0 ≤ p → firstF ls c 1 (slotsC c).toNat = p → bw L w p = m → IsFirst m (slotsC c).toNat i → 0 ≤ i →
      GrabS L ls w c (L.at_10 + p * 32 + i * sizeC c) true (turnW L (unl L ls w p c (cw L w p)) p c ((m + 2 ^ i.toNat : Nat) : Int) (cw L w p - 1))
  | new {p : Int} {u : List Int} : 0 ≤ c ∧ c < 5 → firstF ls c 1 (slotsC c).toNat = -1 → FindR L w 1 1 p → 0 ≤ p → TakeW L w u p 1 (c + 1) →
      GrabS L ls w c (L.at_10 + p * 32) true (turnW L (u.set (L.at_2 + p).toNat (slotsC c)) p c 1 (slotsC c - 1))
theorem GrabS.uniq {w : List Int} {c a a' : Int} {b b' : Bool} {x x' : List Int} (h : GrabS L ls w c a b x) (h' : GrabS L ls w c a' b' x') : a = a' ∧ b = b' ∧ x = x' := by
  cases h with
  | no h =>
    cases h' with
    | no _ => exact ⟨rfl, rfl, rfl⟩
    | old hc hp hf _ _ _ => rcases h with h | ⟨h, _⟩ <;> omega
    | new hc hf hr hp _ =>
      rcases h with h | ⟨_, h⟩
      · omega
      · rcases find_free hr with ⟨e, _⟩ | ⟨⟨e1, e2⟩, e3⟩
        · omega
        · exact (h _ e1 e2 e3).elim
  | @old p m i hc hp hf hb hi h0 =>
    cases h' with
    | no h => rcases h with h | ⟨h, _⟩ <;> omega
    | @old p' m' i' _ _ hf' hb' hi' _ =>
      have e1 : p = p' := by omega
      subst e1
      have e2 : m = m' := by omega
      subst e2
      have e3 := hi.uniq hi'
      subst e3
      exact ⟨rfl, rfl, rfl⟩
    | new _ hf' _ _ _ => omega
  | @new p u hc hf hr hp ht =>
    cases h' with
    | no h =>
      rcases h with h | ⟨_, h⟩
      · omega
      · rcases find_free hr with ⟨e, _⟩ | ⟨⟨e1, e2⟩, e3⟩
        · omega
        · exact (h _ e1 e2 e3).elim
    | old _ _ hf' _ _ _ => omega
    | @new p' u' _ _ hr' _ ht' =>
      have e1 := hr.uniq hr'
      subst e1
      have e2 : u = u' := ht.ran.uniq ht'.ran
      subst e2
      exact ⟨rfl, rfl, rfl⟩
theorem new_page {w u : List Int} {p c : Int} (h : LayOK L) (hn : L.at_11 ≤ (w.length : Int)) (hp : 0 ≤ p ∧ p < L.c.Pages) (hc : 0 ≤ c ∧ c < 5) (t : TakeW L w u p 1 (c + 1)) :
    u.length = w.length ∧ ∀ b, L.at_1 ≤ b → wd (u.set (L.at_2 + p).toNat (slotsC c)) b = if b = L.at_1 + p then c + 1 else if b = L.at_2 + p then slotsC c else if b = L.at_3 + p then 0 else wd w b := by
  have g := h.geo11; have hpg := h.pages; have gk := h.geoK
  have hl := t.len
  have he : (ensM w L.c.Pages L.at_0 p 1).2.length = w.length := by unfold ensM; exact ensG_len ..
  have r := t.ran
  have h6 : ¬ (c + 1 = 6) := by omega
  rw [if_neg h6] at r
  have e : u = setP L.at_1 L.c.Pages (ensM w L.c.Pages L.at_0 p 1).2 p (c + 1) 0 := by
    have z := Ran.zero L.at_1 L.c.Pages (setP L.at_1 L.c.Pages (ensM w L.c.Pages L.at_0 p 1).2 p (c + 1) 0) (p + 1) 7
    exact r.uniq z
  refine ⟨hl, fun b hb => ?_⟩
  rw [wd_set (by omega) (by omega), e, setP_wd (GeoKL h (by rw [he]; exact hn)) hp (by omega), ens_off (by omega) (by omega)]
  repeat' split
  all_goals first | rfl | omega
theorem isFirst_ge {m n : Nat} {i : Int} (hi : IsFirst m n i) (hp : popN m n < n) : 0 ≤ i ∧ i < n ∧ m.testBit i.toNat = false := by
  rcases hi with ⟨_, h⟩ | ⟨h1, h2, h3, _⟩
  · have := popN_all h; omega
  · exact ⟨h1, h2, h3⟩
theorem bit_lt {m n : Nat} {i : Int} (hm : m < 2 ^ n) (hi : 0 ≤ i ∧ i < n) (hb : m.testBit i.toNat = false) : m + 2 ^ i.toNat < 2 ^ n := by
  rw [← or_bit hb]
  exact Nat.or_lt_two_pow hm (Nat.pow_lt_pow_right (by decide) (by omega))
theorem GrabS.inv {w x : List Int} {c a : Int} {b : Bool} (h : LayOK L) (hn : L.at_11 ≤ (w.length : Int)) (i : Inv11 L w inn ls) (s : GrabS L ls w c a b x) : x.length = w.length ∧ ∃ inn' ls', Inv11 L x inn' ls' := by
  have g := h.geo11; have hpg := h.pages
  cases s with
  | no _ => exact ⟨rfl, _, _, i⟩
  | @old p m j hc hp hf hb hj h0 =>
    rcases first_cls i hc hf with ⟨e, _⟩ | ⟨hp, ⟨m', f⟩, h1, _, _⟩
    · omega
    · have e : m' = m := by have := f.bits; omega
      subst e
      obtain ⟨s1, s2, s3⟩ := slots_pow hc
      have hlf := f.left
      obtain ⟨_, j2, j3⟩ := isFirst_ge hj (by omega)
      obtain ⟨ls', r1, hlen, hoff⟩ := cls_rep h hn i.rep hp f
      have hadd := popN_add (m := m') (k := (slotsC c).toNat) (i := j.toNat) (by omega) j3
      refine ⟨by rw [turnW_len, hlen], turn_inv h hn hp (fun q h0 h1 _ => i.pg q h0 h1) r1 hlen hoff hc f.kind (bit_lt f.lt ⟨h0, j2⟩ j3) (by omega)⟩
  | @new p u hc hf hr hp ht =>
    rcases find_free hr with ⟨e, _⟩ | ⟨hp, hk⟩
    · omega
    · obtain ⟨hl, hw⟩ := new_page h hn hp hc ht
      obtain ⟨s1, s2, s3⟩ := slots_pow hc
      generalize hv : u.set (L.at_2 + p).toNat (slotsC c) = v at *
      have hvl : v.length = w.length := by rw [← hv, List.length_set, hl]
      have f : FreeOK L w inn p := by
        rcases i.pg p hp.1 hp.2 with f | ⟨c', m, f⟩
        · exact f
        · have := f.kind; have := f.cls; omega
      have e0 : inn.set p.toNat 0 = inn := wd_ext (by simp) (fun b hb => by
        have := i.rep.len
        rw [wd_set (by omega) hb]
        split
        · rename_i e; rw [e, f.linked]
        · rfl)
      have rv : RepW L.at_4 L.c.Pages v inn ls := i.rep.congr (by omega) (by omega) (fun b h0 h1 => by rw [hw b (by omega), if_neg (by omega), if_neg (by omega), if_neg (by omega)])
      have hb1 : popN 1 (slotsC c).toNat = 1 := by
        have := popN_add (m := 0) (k := (slotsC c).toNat) (i := 0) (by omega) (by simp)
        rw [popN_zero] at this
        exact this
      refine ⟨by rw [turnW_len, hvl], turn_inv (w := v) (w1 := v) (inn := inn) (ls1 := ls) (m := 1) h (by omega) hp (fun q h0 h1 hq => ?_) (by rw [e0]; exact rv) rfl (fun _ _ _ => rfl) hc ?_ (Nat.one_lt_two_pow (by omega)) (by omega)⟩
      · have e1 : kw L v q = kw L w q := by unfold kw; rw [hw _ (by omega), if_neg (by omega), if_neg (by omega), if_neg (by omega)]
        have e2 : cw L v q = cw L w q := by unfold cw; rw [hw _ (by omega), if_neg (by omega), if_neg (by omega), if_neg (by omega)]
        have e3 : bw L v q = bw L w q := by unfold bw; rw [hw _ (by omega), if_neg (by omega), if_neg (by omega), if_neg (by omega)]
        rcases i.pg q h0 h1 with f | ⟨c', m', f⟩
        · exact .inl ⟨e1.trans f.kind, e3.trans f.bits, e2.trans f.left, f.linked⟩
        · exact .inr ⟨c', m', f.cls, e1.trans f.kind, e3.trans f.bits, f.lt, e2.trans f.left, by rw [e2]; exact f.used, by rw [e2]; exact f.linked⟩
      · unfold kw; rw [hw _ (by omega), if_pos rfl]
end Go.Rx
end

section
namespace Go.Rx
variable {L : ya} {nw : Nat} {cur u inn : List Int} {ls : Int → Int → List Int}
theorem mul_size {c i : Int} (hc : 0 ≤ c ∧ c < 5) (hi : 0 ≤ i ∧ i < slotsC c) : 0 ≤ i * sizeC c ∧ i * sizeC c + sizeC c ≤ 32 := by
  have e : c = 0 ∨ c = 1 ∨ c = 2 ∨ c = 3 ∨ c = 4 := by omega
  rcases e with rfl | rfl | rfl | rfl | rfl <;> simp [sizeC, slotsC] at * <;> omega
theorem grab_core {x inn1 : List Int} {ls1 : Int → Int → List Int} {p c : Int} {m : Nat} (ho : y2x nw cur L c = some (L, p, c, true, x)) (v : VOK L nw x) (r : RepW L.at_4 L.c.Pages x inn ls) (hp : 0 ≤ p ∧ p < L.c.Pages)
    (hc : 0 ≤ c ∧ c < 5) (hk : kw L x p = c + 1) (hb : bw L x p = m) (hm : m < 2 ^ (slotsC c).toNat) (hlt : popN m (slotsC c).toNat < (slotsC c).toNat) (hcw : cw L x p = slotsC c - popN m (slotsC c).toNat)
    (r1 : RepW L.at_4 L.c.Pages (unl L ls x p c (cw L x p)) inn1 ls1) (hlen : (unl L ls x p c (cw L x p)).length = x.length)
    (hoff : ∀ b, 0 ≤ b → (b < L.at_4 ∨ L.at_4 + 2 * L.c.Pages + 62 ≤ b) → wd (unl L ls x p c (cw L x p)) b = wd x b) :
    ∃ i, IsFirst m (slotsC c).toNat i ∧ 0 ≤ i ∧ y0n nw cur L c = some (L.at_10 + p * 32 + i * sizeC c, true, turnW L (unl L ls x p c (cw L x p)) p c ((m + 2 ^ i.toNat : Nat) : Int) (cw L x p - 1)) := by
  have g := v.lay.geo11
  obtain ⟨s1, s2, s3⟩ := slots_pow hc
  have h4 := bits_lt hm s1
  obtain ⟨i, e1, e2⟩ := First_is (m := m) (n := (slotsC c).toNat) h4 s1
  obtain ⟨i0, i1, i2⟩ := isFirst_ge e2 hlt
  rw [s3] at e1
  refine ⟨i, e2, i0, ?_⟩
  unfold y0n
  rw [ho, Option.bind_some]
  simp only [cond_true]
  have hmul := mul_size hc (i := i) ⟨i0, by omega⟩
  have hsz := sizeC_in hc
  rw [bits_eq v hp, Option.bind_some, Slots_eq, Option.bind_some, hb, e1, Option.bind_some, Option.bind_some, Set_eq h4 ⟨i0, by omega⟩ i2, Option.bind_some, left_eq v hp, Option.bind_some, wrap_id (by omega) (by omega), pturn_eq v r hp hc hk r1 hlen hoff, Option.bind_some,
    Addr_eq v.lay, Option.bind_some, Size_eq, Option.bind_some]
  rw [show (if c = 0 then 1 else if c = 1 then 2 else if c = 2 then 4 else if c = 3 then 8 else if c = 4 then 16 else 0) = sizeC c from rfl]
  unfold lAddr
  rw [if_pos hp, wrap_id (x := i * sizeC c) (by omega) (by omega), wrap_id (by omega) (by omega)]
theorem pGrab_eq (v : VOK L nw cur) (i : Inv11 L cur inn ls) (c : Int) : ∃ a b x, y0n nw cur L c = some (a, b, x) ∧ GrabS L ls cur c a b x := by
  have g := v.lay.geo11
  have hn : L.at_11 ≤ (cur.length : Int) := by have := v.len; have := v.all; omega
  by_cases hc : 0 ≤ c ∧ c < 5
  rotate_left
  · have ho : ∃ L0, y2x nw cur L c = some (L0, 0, 0, false, cur) := by
      unfold y2x
      rw [Size_eq, Option.bind_some, show (if c = 0 then 1 else if c = 1 then 2 else if c = 2 then 4 else if c = 3 then 8 else if c = 4 then 16 else 0) = sizeC c from rfl, sizeC_no hc]
      exact ⟨_, rfl⟩
    obtain ⟨L0, ho⟩ := ho
    refine ⟨_, _, _, ?_, .no (.inl hc)⟩
    unfold y0n
    rw [ho, Option.bind_some]
    rfl
  obtain ⟨z1, z2, z3⟩ := sizeC_in hc
  obtain ⟨s1, s2, s3⟩ := slots_pow hc
  have hsz : (if c = 0 then 1 else if c = 1 then 2 else if c = 2 then 4 else if c = 3 then 8 else if c = 4 then 16 else 0) = sizeC c := rfl
  rcases first_cls i hc rfl with ⟨hf, _⟩ | ⟨hp, ⟨m, f⟩, h1, hmem, _⟩
  · obtain ⟨p, e1, e2⟩ := eFind_eq v 1 1
    rcases find_free e2 with ⟨e3, e4⟩ | ⟨hp, hk⟩
    · have hno : ¬ MayTake L cur p 1 (c + 1) := fun h => by
        have := h.2.2.span
        omega
      have ho : ∃ L0, y2x nw cur L c = some (L0, 0, 0, false, cur) := by
        unfold y2x
        rw [Size_eq, Option.bind_some, hsz, beq_eq_false_iff_ne.2 (show sizeC c ≠ 0 by omega), cond_false, pFirst_eq v (ls := ls) (fun f k => i.rep.lst _ _ k), Option.bind_some, hf, decide_eq_false (by omega), cond_false, e1, Option.bind_some, wrap_id (by omega) (by omega), eTake_no v hno]
        exact ⟨_, rfl⟩
      obtain ⟨L0, ho⟩ := ho
      refine ⟨_, _, _, ?_, .no (.inr ⟨hf, e4⟩)⟩
      unfold y0n
      rw [ho, Option.bind_some]
      rfl
    · have hyes : MayTake L cur p 1 (c + 1) := ⟨by omega, fun _ => rfl, ⟨by omega, fun j j0 j1 => by
        have : p + j = p := by omega
        rw [this]; exact hk⟩⟩
      obtain ⟨u, t1, t2⟩ := eTake_yes v hyes (by have := v.lay.pages; unfold I64; omega)
      obtain ⟨hl, hw⟩ := new_page v.lay hn hp hc t2
      have ho : y2x nw cur L c = some (L, p, c, true, u.set (L.at_2 + p).toNat (slotsC c)) := by
        unfold y2x
        rw [Size_eq, Option.bind_some, hsz, beq_eq_false_iff_ne.2 (show sizeC c ≠ 0 by omega), cond_false, pFirst_eq v (ls := ls) (fun f k => i.rep.lst _ _ k), Option.bind_some, hf, decide_eq_false (by omega), cond_false, e1, Option.bind_some, wrap_id (by omega) (by omega), t1, Option.bind_some]
        simp only [Bool.not_true, cond_false]
        rw [Count_eq v.lay, Option.bind_some, Slots_eq, Option.bind_some, lPg_in hp, (page_at v hp).2.1]
        rfl
      have f : FreeOK L cur inn p := by
        rcases i.pg p hp.1 hp.2 with f | ⟨c', m, f⟩
        · exact f
        · have := f.kind; have := f.cls; omega
      have ec : cw L (u.set (L.at_2 + p).toNat (slotsC c)) p = slotsC c := by unfold cw; rw [hw _ (by omega), if_neg (by omega), if_pos rfl]
      have ek : kw L (u.set (L.at_2 + p).toNat (slotsC c)) p = c + 1 := by unfold kw; rw [hw _ (by omega), if_pos rfl]
      have eb : bw L (u.set (L.at_2 + p).toNat (slotsC c)) p = ((0 : Nat) : Int) := by unfold bw; rw [hw _ (by omega), if_neg (by omega), if_neg (by omega), if_pos rfl]; rfl
      have en : unl L ls (u.set (L.at_2 + p).toNat (slotsC c)) p c (slotsC c) = u.set (L.at_2 + p).toNat (slotsC c) := by
        unfold unl
        rw [if_neg]
        rintro ⟨hL, hm⟩
        have := ((i.rep.mem _ _ hL p).1 hm).2
        have := f.linked
        omega
      have rv : RepW L.at_4 L.c.Pages (u.set (L.at_2 + p).toNat (slotsC c)) inn ls := i.rep.congr (by omega) (by omega) (fun b h0 h1 => by rw [hw b (by omega), if_neg (by omega), if_neg (by omega), if_neg (by omega)])
      have vv : VOK L nw (u.set (L.at_2 + p).toNat (slotsC c)) := ⟨v.lay, by rw [List.length_set, hl]; exact v.len, v.all⟩
      have hz := popN_zero (slotsC c).toNat
      obtain ⟨j, j1, j2, j3⟩ := grab_core (inn1 := inn) (ls1 := ls) ho vv rv hp hc ek eb (Nat.two_pow_pos _) (by omega) (by rw [ec]; omega) (by rw [ec, en]; exact rv) (by rw [ec, en]) (fun b _ _ => by rw [ec, en])
      have ej : j = 0 := j1.uniq (.inr ⟨by omega, by omega, by simp, fun k hk => by omega⟩)
      subst ej
      rw [ec, en] at j3
      refine ⟨_, _, _, j3, ?_⟩
      have := GrabS.new (w := cur) (ls := ls) hc hf e2 hp.1 t2
      rw [show L.at_10 + p * 32 + 0 * sizeC c = L.at_10 + p * 32 by omega]
      exact this
  · have hlf := f.left
    obtain ⟨ls', r1, hlen, hoff⟩ := cls_rep v.lay hn i.rep hp f
    generalize hpp : firstF ls c 1 (slotsC c).toNat = p at *
    have ho : y2x nw cur L c = some (L, p, c, true, cur) := by
      unfold y2x
      rw [Size_eq, Option.bind_some, hsz, beq_eq_false_iff_ne.2 (show sizeC c ≠ 0 by omega), cond_false, pFirst_eq v (ls := ls) (fun f k => i.rep.lst _ _ k), Option.bind_some, hpp, decide_eq_true (show p ≥ 0 by omega), cond_true]
    obtain ⟨j, j1, j2, j3⟩ := grab_core ho v i.rep hp hc f.kind f.bits f.lt (by omega) hlf r1 hlen hoff
    exact ⟨_, _, _, j3, .old hc hp.1 hpp f.bits j1 j2⟩
end Go.Rx
end

noncomputable section
namespace Go.Rx
open Go.Proofs
set_option maxRecDepth 100000
set_option maxHeartbeats 4000000
abbrev Y30 := T_assartref02_Layout → Int → (List Int) → Option (Int × Bool)
def y91 (m_ : Y30) (args : List V) (H : Heap) (K : V → Heap → Prop) : Prop :=
  aC args fun a0 r => aC r fun a1 r => aC r fun a2 r => aN r <| aAgg a0 fun c0 => y0f c0 fun l2 => aRow 0 a1 <| aInt a2 fun a => aC H fun b0 r => aN r <| bRow 0 true b0 fun (w : List Int) => So (m_ l2 a w) fun x => K (.tup [vi x.1, vb x.2]) [.row 0 w true]
def y8p (m_ : Y30) : Spec := ⟨y91 m_, (true : Bool)⟩
def ybn (m_ : Y14) (args : List V) (H : Heap) (K : V → Heap → Prop) : Prop :=
  aC args fun a0 r => aC r fun a1 r => aC r fun a2 r => aN r <| aAgg a0 fun c0 => y0f c0 fun l2 => aRow 0 a1 <| aInt a2 fun c => aC H fun b0 r => aN r <| bRow 0 true b0 fun (w : List Int) => So (m_ l2 c w) fun x => K (vb x) [.row 0 w true]
def ydm (m_ : Y14) : Spec := ⟨ybn m_, (true : Bool)⟩
def y80 (m_ : Y9) (args : List V) (H : Heap) (K : V → Heap → Prop) : Prop :=
  aC args fun a0 r => aC r fun a1 r => aC r fun a2 r => aN r <| aAgg a0 fun c0 => y0f c0 fun l2 => aRow 0 a1 <| aInt a2 fun c => aC H fun b0 r => aN r <| bRow 0 true b0 fun (w : List Int) => So (m_ l2 c w) fun x => K (vi x) [.row 0 w true]
def yfh (m_ : Y9) : Spec := ⟨y80 m_, (true : Bool)⟩
abbrev Y39 := T_assartref02_Layout → Int → (List Int) → Option (Int × Bool × (List Int))
def yct (m_ : Y39) (args : List V) (H : Heap) (K : V → Heap → Prop) : Prop :=
  aC args fun a0 r => aC r fun a1 r => aC r fun a2 r => aN r <| aAgg a0 fun c0 => y0f c0 fun l2 => aRow 0 a1 <| aInt a2 fun c => aC H fun b0 r => aN r <| bRow 0 false b0 fun (w : List Int) => So (m_ l2 c w) fun x => K (.tup [vi x.1, vb x.2.1]) [.row 0 x.2.2 false]
def yec (m_ : Y39) : Spec := ⟨yct m_, (⟨true, fun i => Nat.beq i 0⟩ : RO)⟩
abbrev Y43 := T_assartref02_Layout → Int → (List Int) → Option (Bool × (List Int))
def yaz (m_ : Y43) (args : List V) (H : Heap) (K : V → Heap → Prop) : Prop :=
  aC args fun a0 r => aC r fun a1 r => aC r fun a2 r => aN r <| aAgg a0 fun c0 => y0f c0 fun l2 => aRow 0 a1 <| aInt a2 fun a => aC H fun b0 r => aN r <| bRow 0 false b0 fun (w : List Int) => So (m_ l2 a w) fun x => K (vb x.1) [.row 0 x.2 false]
def yjr (m_ : Y43) : Spec := ⟨yaz m_, (⟨true, fun i => Nat.beq i 0⟩ : RO)⟩
def yg1 (y2l : Y36) (y06 : Y0) (y0j : Y3) (ym : Y0) (yp : Y22) : Cfg := { cfgB with
  sigs := (sigC 85 (yag y2l) (sigC 88 (y6t y06) (sigC 73 (y62 y0j) (sigC 81 (y5w ym) (sigC 89 (y5m yp) sigN))))),
  plan := fun r => match r with | 6 => some ([0, 1, 2, 3, 4, 5, 6, 7, 8, 9, 10, 11, 15, 16, 17, 12, 13, 14, 18, 19, 20], 0) | _ => none }
def ydn (y1y : Y9) : Cfg := { cfgB with
  sigs := (sigC 74 (ybp y1y) sigN) }
def y4t (y06 : Y0) (y0d : Y3) (ym : Y0) (y1r : Y10) : Cfg := { cfgB with
  sigs := (sigC 88 (y6t y06) (sigC 77 (y72 y0d) (sigC 81 (y5w ym) (sigC 90 (yhz y1r) sigN)))),
  keep := fun r => match r with | 3 => some [(1, some 0), (2, none), (3, none), (7, none), (8, none)] | _ => none,
  plan := fun r => match r with | 6 => some ([0, 1, 4, 5, 6, 10, 2, 3, 7, 8, 9, 11, 12, 13, 14], 0) | _ => none }
def yef (y0j : Y3) (y1y : Y9) (y3k : Y51) (y3y : Y4) (y0a : Y0) (y0d : Y3) (y2i : Y4) (ym : Y0) (y3f y3e : Y10) (y1w : Y4) (y3c : Y0) : Cfg := { cfgB with
  sigs := (sigC 73 (y62 y0j) (sigC 74 (ybp y1y) (sigC 75 (ydh y3k) (sigC 76 (yey y3y) (sigC 78 (y74 y0a) (sigC 77 (y72 y0d) (sigC 79 (yb9 y2i) (sigC 81 (y5w ym) (sigC 80 (ye7 y3f) (sigC 82 (yiz y3e) (sigC 83 (ya0 y1w) (sigC 84 (yik y3c) sigN)))))))))))),
  plan := fun r => match r with | 10 => some (List.range 11, 24189255811088) | 11 => some ([0, 1, 2, 6, 3, 4, 5, 7, 8, 9], 16) | 12 => some ([0, 1, 2, 4, 5, 6, 10, 3, 7, 8, 9, 11, 12, 13], 30786325577744) | 14 => some (List.range 11, 24189255811088) | _ => none }
def yg4 (y1d : Y30) (y2l : Y36) (y0a : Y0) (y2i : Y4) (ym : Y0) (y0j : Y3) (y3q : Y10) (y0d : Y3) (y44 : Y44) (y1w : Y4) : Cfg := { cfgB with
  sigs := (sigC 45 (y8p y1d) (sigC 85 (yag y2l) (sigC 78 (y74 y0a) (sigC 79 (yb9 y2i) (sigC 81 (y5w ym) (sigC 73 (y62 y0j) (sigC 86 (ydi y3q) (sigC 77 (y72 y0d) (sigC 87 (yi9 y44) (sigC 83 (ya0 y1w) sigN)))))))))),
  plan := fun r => match r with | 5 => some (List.range 11, 24189255811088) | 6 => some ([0, 1, 2, 4, 5, 6, 10, 11, 3, 7, 8, 9, 12, 13, 14, 15, 16], 37383395344400) | 8 => some ([0, 1, 2, 6, 3, 4, 5, 7, 8], 16) | 10 => some (List.range 11, 24189255811088) | _ => none }
theorem yml (y2l : Y36) (y06 : Y0) (y0j : Y3) (ym : Y0) (yp : Y22) (l2 : T_assartref02_Layout) (a : Int) (w : List Int) (K : V → Heap → Prop) : (exF (yg1 y2l y06 y0j ym yp) Tryz.f45 [.agg (y0g l2), .row 0, vi a] [.row 0 w true] K) = (
    So (y2l l2 a) (fun (y0 : Int × Int × Bool) => (br (!y0.2.2) (K (.tup [vi 0, vb false]) [.row 0 w true]) (So (y06 l2 y0.1) (fun (y1 : Int) => (Req (inR y1 w.length) (Req (inR (offs y1 0) w.length) (So (y0j (IntKind.i64.wrap (w.getD (offs y1 0).toNat 0 - 1))) (fun (y2 : Int) => (br (y2 == 0) (K (.tup [vi 0, vb false]) [.row 0 w true]) (Req (!y2 == 0) (br (Int.tmod y0.2.1 y2 != 0) (K (.tup [vi 0, vb false]) [.row 0 w true]) (Req (!y2 == 0) (So (ym l2 y0.1) (fun (y3 : Int) => (Req (inR y3 w.length) (Req (inR (offs y3 0) w.length) (So (yp (w.getD (offs y3 0).toNat 0) (IntKind.i64.wrap (Int.tdiv y0.2.1 y2))) (fun (y4 : Bool) => (br (!y4) (K (.tup [vi 0, vb false]) [.row 0 w true]) (K (.tup [vi (IntKind.i64.wrap (w.getD (offs y1 0).toNat 0 - 1)), vb true]) [.row 0 w true]))))))))))))))))))))) := by kernel_rfl
theorem yl3 (y1y : Y9) (l2 : T_assartref02_Layout) (c : Int) (w : List Int) (K : V → Heap → Prop) : (exF (ydn y1y) Tryz.f46 [.agg (y0g l2), .row 0, vi c] [.row 0 w true] K) = (
    So (y1y l2 c w) (fun (y0 : Int) => (K (vb (decide (y0 ≥ 0))) [.row 0 w true]))) := by kernel_rfl
theorem ypy (y06 : Y0) (y0d : Y3) (ym : Y0) (y1r : Y10) (l2 : T_assartref02_Layout) (c : Int) (w : List Int) (n p : Int) (K : V → Heap → Prop) (J1 : Env → Heap → Prop) : (ex (y4t y06 y0d ym y1r) (⟨48, 1⟩ : Cx) (at_ (bodyOf Tryz.f47) [1, 1, 0, 1, 0, 0]) (mkEnv [(1, .row 0), (2, vi c), (3, .ptr 1 0), (7, vi n), (8, vi p)]) [.row 0 w true, .cells 30 (ye (Go.Rx.T_assartref02_Layout.C l2))] (roundK (y4t y06 y0d ym y1r) (⟨48, 1⟩ : Cx) (at_ (bodyOf Tryz.f47) [1, 1, 0, 1, 0, 0]) (contK (y4t y06 y0d ym y1r) (⟨48, 1⟩ : Cx) (bodyOf Tryz.f47) [1, 1, 0, 1, 0] (retK (y4t y06 y0d ym y1r) Tryz.f47 1 K)) J1)) = (
    br (decide (p < l2.C.Pages)) (br (decide (c ≥ 0)) (br (decide (c < 5)) (So (y06 l2 p) (fun (y0 : Int) => (Req (inR y0 w.length) (Req (inR (offs y0 0) w.length) (br (w.getD (offs y0 0).toNat 0 == IntKind.i64.wrap (c + 1)) (So (y0d c) (fun (y1 : Int) => (So (ym l2 p) (fun (y2 : Int) => (Req (inR y2 w.length) (Req (inR (offs y2 0) w.length) (So (y0d c) (fun (y3 : Int) => (So (y1r (w.getD (offs y2 0).toNat 0) y3) (fun (y4 : Int) => (J1 (mkEnv [(1, .row 0), (2, vi c), (3, .ptr 1 0), (7, vi (IntKind.i64.wrap (IntKind.i64.wrap (n + y1) - y4))), (8, vi (IntKind.i64.wrap (p + 1)))]) [.row 0 w true, .cells 30 (ye l2.C)]))))))))))) (J1 (mkEnv [(1, .row 0), (2, vi c), (3, .ptr 1 0), (7, vi n), (8, vi (IntKind.i64.wrap (p + 1)))]) [.row 0 w true, .cells 30 (ye l2.C)])))))) (J1 (mkEnv [(1, .row 0), (2, vi c), (3, .ptr 1 0), (7, vi n), (8, vi (IntKind.i64.wrap (p + 1)))]) [.row 0 w true, .cells 30 (ye l2.C)])) (J1 (mkEnv [(1, .row 0), (2, vi c), (3, .ptr 1 0), (7, vi n), (8, vi (IntKind.i64.wrap (p + 1)))]) [.row 0 w true, .cells 30 (ye l2.C)])) (K (vi n) [.row 0 w true])) := by kernel_rfl
theorem yjz (y06 : Y0) (y0d : Y3) (ym : Y0) (y1r : Y10) (l2 : T_assartref02_Layout) (c : Int) (w : List Int) (K : V → Heap → Prop) : (exF (y4t y06 y0d ym y1r) Tryz.f47 [.agg (y0g l2), .row 0, vi c] [.row 0 w true] K) = (
    Loop (y4t y06 y0d ym y1r) (⟨48, 1⟩ : Cx) (at_ (bodyOf Tryz.f47) [1, 1, 0, 1, 0, 0]) (mkEnv [(1, .row 0), (2, vi c), (3, .ptr 1 0), (7, vi 0), (8, vi 0)]) [.row 0 w true, .cells 30 (ye l2.C)] (contK (y4t y06 y0d ym y1r) (⟨48, 1⟩ : Cx) (bodyOf Tryz.f47) [1, 1, 0, 1, 0] (retK (y4t y06 y0d ym y1r) Tryz.f47 1 K))) := by kernel_rfl
theorem yk6 (y0j : Y3) (y1y : Y9) (y3k : Y51) (y3y : Y4) (y0a : Y0) (y0d : Y3) (y2i : Y4) (ym : Y0) (y3f y3e : Y10) (y1w : Y4) (y3c : Y0) (l2 : T_assartref02_Layout) (c : Int) (w : List Int) (K : V → Heap → Prop) : (exF (yef y0j y1y y3k y3y y0a y0d y2i ym y3f y3e y1w y3c) Tryz.f43 [.agg (y0g l2), .row 0, vi c] [.row 0 w false] K) = (
    So (y0j c) (fun (y0 : Int) => (br (y0 == 0) (K (.tup [vi 0, vb false]) [.row 0 w false]) (So (y1y l2 c w) (fun (y1 : Int) => (br (decide (y1 < 0)) (So (y3k l2 1 1 w) (fun (y2 : Int) => (br (decide (y2 < 0)) (K (.tup [vi 0, vb false]) [.row 0 w false]) (So (y3y l2 y2 1 (IntKind.i64.wrap (c + 1)) w) (fun (y3 : Bool × List Int) => (So (y0a l2 y2) (fun (y4 : Int) => (So (y0d c) (fun (y5 : Int) => (Req (inR y4 y3.2.length) (Req (inR (offs y4 0) y3.2.length) (So (ym l2 y2) (fun (y6 : Int) => (Req (inR y6 (List.length (List.set y3.2 (offs y4 0).toNat y5))) (Req (inR (offs y6 0) (List.length (List.set y3.2 (offs y4 0).toNat y5))) (So (y0d c) (fun (y7 : Int) => (So (y3f (List.getD (List.set y3.2 (offs y4 0).toNat y5) (offs y6 0).toNat 0) y7) (fun (y8 : Int) => (So (ym l2 y2) (fun (y9 : Int) => (So (ym l2 y2) (fun (y10 : Int) => (Req (inR y10 (List.length (List.set y3.2 (offs y4 0).toNat y5))) (Req (inR (offs y10 0) (List.length (List.set y3.2 (offs y4 0).toNat y5))) (So (y3e (List.getD (List.set y3.2 (offs y4 0).toNat y5) (offs y10 0).toNat 0) y8) (fun (y11 : Int) => (Req (inR y9 (List.length (List.set y3.2 (offs y4 0).toNat y5))) (Req (inR (offs y9 0) (List.length (List.set y3.2 (offs y4 0).toNat y5))) (So (y0a l2 y2) (fun (y12 : Int) => (Req (inR y12 (List.length (List.set (List.set y3.2 (offs y4 0).toNat y5) (offs y9 0).toNat y11))) (Req (inR (offs y12 0) (List.length (List.set (List.set y3.2 (offs y4 0).toNat y5) (offs y9 0).toNat y11))) (Req (inR y12 (List.length (List.set (List.set y3.2 (offs y4 0).toNat y5) (offs y9 0).toNat y11))) (Req (inR (offs y12 0) (List.length (List.set (List.set y3.2 (offs y4 0).toNat y5) (offs y9 0).toNat y11))) (So (y0a l2 y2) (fun (y13 : Int) => (Req (inR y13 (List.length (List.set (List.set (List.set y3.2 (offs y4 0).toNat y5) (offs y9 0).toNat y11) (offs y12 0).toNat (IntKind.i64.wrap (List.getD (List.set (List.set y3.2 (offs y4 0).toNat y5) (offs y9 0).toNat y11) (offs y12 0).toNat 0 - 1))))) (Req (inR (offs y13 0) (List.length (List.set (List.set (List.set y3.2 (offs y4 0).toNat y5) (offs y9 0).toNat y11) (offs y12 0).toNat (IntKind.i64.wrap (List.getD (List.set (List.set y3.2 (offs y4 0).toNat y5) (offs y9 0).toNat y11) (offs y12 0).toNat 0 - 1))))) (So (y1w l2 y2 c (List.getD (List.set (List.set (List.set y3.2 (offs y4 0).toNat y5) (offs y9 0).toNat y11) (offs y12 0).toNat (IntKind.i64.wrap (List.getD (List.set (List.set y3.2 (offs y4 0).toNat y5) (offs y9 0).toNat y11) (offs y12 0).toNat 0 - 1))) (offs y13 0).toNat 0) (List.set (List.set (List.set y3.2 (offs y4 0).toNat y5) (offs y9 0).toNat y11) (offs y12 0).toNat (IntKind.i64.wrap (List.getD (List.set (List.set y3.2 (offs y4 0).toNat y5) (offs y9 0).toNat y11) (offs y12 0).toNat 0 - 1)))) (fun (y14 : Bool × List Int) => (So (y3c l2 y2) (fun (y15 : Int) => (So (y0j c) (fun (y16 : Int) => (K (.tup [vi (IntKind.i64.wrap (y15 + IntKind.i64.wrap (y8 * y16))), vb true]) [.row 0 (y14.2 : List Int) false])))))))))))))))))))))))))))))))))))))))))))))) (So (y0a l2 y1) (fun (y17 : Int) => (Req (inR y17 w.length) (Req (inR (offs y17 0) w.length) (So (y2i l2 y1 c (w.getD (offs y17 0).toNat 0) w) (fun (y18 : Bool × List Int) => (So (ym l2 y1) (fun (y19 : Int) => (Req (inR y19 y18.2.length) (Req (inR (offs y19 0) y18.2.length) (So (y0d c) (fun (y20 : Int) => (So (y3f (y18.2.getD (offs y19 0).toNat 0) y20) (fun (y21 : Int) => (So (ym l2 y1) (fun (y22 : Int) => (So (ym l2 y1) (fun (y23 : Int) => (Req (inR y23 y18.2.length) (Req (inR (offs y23 0) y18.2.length) (So (y3e (y18.2.getD (offs y23 0).toNat 0) y21) (fun (y24 : Int) => (Req (inR y22 y18.2.length) (Req (inR (offs y22 0) y18.2.length) (So (y0a l2 y1) (fun (y25 : Int) => (Req (inR y25 (List.length (List.set y18.2 (offs y22 0).toNat y24))) (Req (inR (offs y25 0) (List.length (List.set y18.2 (offs y22 0).toNat y24))) (Req (inR y25 (List.length (List.set y18.2 (offs y22 0).toNat y24))) (Req (inR (offs y25 0) (List.length (List.set y18.2 (offs y22 0).toNat y24))) (So (y0a l2 y1) (fun (y26 : Int) => (Req (inR y26 (List.length (List.set (List.set y18.2 (offs y22 0).toNat y24) (offs y25 0).toNat (IntKind.i64.wrap (List.getD (List.set y18.2 (offs y22 0).toNat y24) (offs y25 0).toNat 0 - 1))))) (Req (inR (offs y26 0) (List.length (List.set (List.set y18.2 (offs y22 0).toNat y24) (offs y25 0).toNat (IntKind.i64.wrap (List.getD (List.set y18.2 (offs y22 0).toNat y24) (offs y25 0).toNat 0 - 1))))) (So (y1w l2 y1 c (List.getD (List.set (List.set y18.2 (offs y22 0).toNat y24) (offs y25 0).toNat (IntKind.i64.wrap (List.getD (List.set y18.2 (offs y22 0).toNat y24) (offs y25 0).toNat 0 - 1))) (offs y26 0).toNat 0) (List.set (List.set y18.2 (offs y22 0).toNat y24) (offs y25 0).toNat (IntKind.i64.wrap (List.getD (List.set y18.2 (offs y22 0).toNat y24) (offs y25 0).toNat 0 - 1)))) (fun (y27 : Bool × List Int) => (So (y3c l2 y1) (fun (y28 : Int) => (So (y0j c) (fun (y29 : Int) => (K (.tup [vi (IntKind.i64.wrap (y28 + IntKind.i64.wrap (y21 * y29))), vb true]) [.row 0 (y27.2 : List Int) false]))))))))))))))))))))))))))))))))))))))))))))))) := by kernel_rfl
theorem yma (y1d : Y30) (y2l : Y36) (y0a : Y0) (y2i : Y4) (ym : Y0) (y0j : Y3) (y3q : Y10) (y0d : Y3) (y44 : Y44) (y1w : Y4) (l2 : T_assartref02_Layout) (a : Int) (w : List Int) (K : V → Heap → Prop) : (exF (yg4 y1d y2l y0a y2i ym y0j y3q y0d y44 y1w) Tryz.f44 [.agg (y0g l2), .row 0, vi a] [.row 0 w false] K) = (
    So (y1d l2 a w) (fun (y0 : Int × Bool) => (br (!y0.2) (K (vb false) [.row 0 w false]) (So (y2l l2 a) (fun (y1 : Int × Int × Bool) => (So (y0a l2 y1.1) (fun (y2 : Int) => (Req (inR y2 w.length) (Req (inR (offs y2 0) w.length) (So (y2i l2 y1.1 y0.1 (w.getD (offs y2 0).toNat 0) w) (fun (y3 : Bool × List Int) => (So (ym l2 y1.1) (fun (y4 : Int) => (So (ym l2 y1.1) (fun (y5 : Int) => (Req (inR y5 y3.2.length) (Req (inR (offs y5 0) y3.2.length) (So (y0j y0.1) (fun (y6 : Int) => (Req (!y6 == 0) (So (y3q (y3.2.getD (offs y5 0).toNat 0) (IntKind.i64.wrap (Int.tdiv y1.2.1 y6))) (fun (y7 : Int) => (Req (inR y4 y3.2.length) (Req (inR (offs y4 0) y3.2.length) (So (y0a l2 y1.1) (fun (y8 : Int) => (Req (inR y8 (List.length (List.set y3.2 (offs y4 0).toNat y7))) (Req (inR (offs y8 0) (List.length (List.set y3.2 (offs y4 0).toNat y7))) (Req (inR y8 (List.length (List.set y3.2 (offs y4 0).toNat y7))) (Req (inR (offs y8 0) (List.length (List.set y3.2 (offs y4 0).toNat y7))) (So (y0a l2 y1.1) (fun (y9 : Int) => (Req (inR y9 (List.length (List.set (List.set y3.2 (offs y4 0).toNat y7) (offs y8 0).toNat (IntKind.i64.wrap (List.getD (List.set y3.2 (offs y4 0).toNat y7) (offs y8 0).toNat 0 + 1))))) (Req (inR (offs y9 0) (List.length (List.set (List.set y3.2 (offs y4 0).toNat y7) (offs y8 0).toNat (IntKind.i64.wrap (List.getD (List.set y3.2 (offs y4 0).toNat y7) (offs y8 0).toNat 0 + 1))))) (So (y0d y0.1) (fun (y10 : Int) => (br (List.getD (List.set (List.set y3.2 (offs y4 0).toNat y7) (offs y8 0).toNat (IntKind.i64.wrap (List.getD (List.set y3.2 (offs y4 0).toNat y7) (offs y8 0).toNat 0 + 1))) (offs y9 0).toNat 0 == y10) (So (y44 l2 y1.1 (List.set (List.set y3.2 (offs y4 0).toNat y7) (offs y8 0).toNat (IntKind.i64.wrap (List.getD (List.set y3.2 (offs y4 0).toNat y7) (offs y8 0).toNat 0 + 1)))) (fun (y11 : Int × List Int) => (K (vb true) [.row 0 (y11.2 : List Int) false]))) (So (y0a l2 y1.1) (fun (y12 : Int) => (Req (inR y12 (List.length (List.set (List.set y3.2 (offs y4 0).toNat y7) (offs y8 0).toNat (IntKind.i64.wrap (List.getD (List.set y3.2 (offs y4 0).toNat y7) (offs y8 0).toNat 0 + 1))))) (Req (inR (offs y12 0) (List.length (List.set (List.set y3.2 (offs y4 0).toNat y7) (offs y8 0).toNat (IntKind.i64.wrap (List.getD (List.set y3.2 (offs y4 0).toNat y7) (offs y8 0).toNat 0 + 1))))) (So (y1w l2 y1.1 y0.1 (List.getD (List.set (List.set y3.2 (offs y4 0).toNat y7) (offs y8 0).toNat (IntKind.i64.wrap (List.getD (List.set y3.2 (offs y4 0).toNat y7) (offs y8 0).toNat 0 + 1))) (offs y12 0).toNat 0) (List.set (List.set y3.2 (offs y4 0).toNat y7) (offs y8 0).toNat (IntKind.i64.wrap (List.getD (List.set y3.2 (offs y4 0).toNat y7) (offs y8 0).toNat 0 + 1)))) (fun (y13 : Bool × List Int) => (K (vb true) [.row 0 (y13.2 : List Int) false])))))))))))))))))))))))))))))))))))))))))))) := by kernel_rfl
def y1d (l2 : T_assartref02_Layout) (a : Int) (w : List Int) : Option (Int × Bool) :=
  ((y2l l2 a).bind fun y0 => (bif (!y0.2.2) then some (0, false) else ((y06 l2 y0.1).bind fun y1 => (bif (inR y1 w.length) then (bif (inR (offs y1 0) w.length) then ((y0j (IntKind.i64.wrap (w.getD (offs y1 0).toNat 0 - 1))).bind fun y2 => (bif (y2 == 0) then some (0, false) else (bif (!y2 == 0) then (bif (Int.tmod y0.2.1 y2 != 0) then some (0, false) else (bif (!y2 == 0) then ((ym l2 y0.1).bind fun y3 => (bif (inR y3 w.length) then (bif (inR (offs y3 0) w.length) then ((yp (w.getD (offs y3 0).toNat 0) (IntKind.i64.wrap (Int.tdiv y0.2.1 y2))).bind fun y4 => (bif (!y4) then some (0, false) else some ((IntKind.i64.wrap (w.getD (offs y1 0).toNat 0 - 1)), true))) else none) else none)) else none)) else none))) else none) else none))))
def y2v (l2 : T_assartref02_Layout) (c : Int) (w : List Int) : Option Bool :=
  ((y1y l2 c w).bind fun y0 => some (decide (y0 ≥ 0)))
def y6s (l2 : T_assartref02_Layout) (c : Int) (w : List Int) (n p : Int) : Option ((Int × Int) ⊕ Int) :=
  (bif (decide (p < l2.C.Pages)) then (bif (decide (c ≥ 0)) then (bif (decide (c < 5)) then ((y06 l2 p).bind fun y0 => (bif (inR y0 w.length) then (bif (inR (offs y0 0) w.length) then (bif (w.getD (offs y0 0).toNat 0 == IntKind.i64.wrap (c + 1)) then ((y0d c).bind fun y1 => ((ym l2 p).bind fun y2 => (bif (inR y2 w.length) then (bif (inR (offs y2 0) w.length) then ((y0d c).bind fun y3 => ((y1r (w.getD (offs y2 0).toNat 0) y3).bind fun y4 => some (.inl ((IntKind.i64.wrap (IntKind.i64.wrap (n + y1) - y4)), (IntKind.i64.wrap (p + 1)))))) else none) else none))) else some (.inl (n, (IntKind.i64.wrap (p + 1))))) else none) else none)) else some (.inl (n, (IntKind.i64.wrap (p + 1))))) else some (.inl (n, (IntKind.i64.wrap (p + 1))))) else some (.inr n))
def y94 (l2 : T_assartref02_Layout) (c : Int) (w : List Int) (s : Int × Int) : Option Int :=
  loopO (fun s => y6s l2 c w s.1 s.2) s
def y3b (l2 : T_assartref02_Layout) (c : Int) (w : List Int) : Option Int :=
  (y94 l2 c w (0, 0))
def y3a (l2 : T_assartref02_Layout) (c : Int) (w : List Int) : Option (Int × Bool × (List Int)) :=
  ((y0j c).bind fun y0 => (bif (y0 == 0) then some (0, false, w) else ((y1y l2 c w).bind fun y1 => (bif (decide (y1 < 0)) then ((y3k l2 1 1 w).bind fun y2 => (bif (decide (y2 < 0)) then some (0, false, w) else ((y3y l2 y2 1 (IntKind.i64.wrap (c + 1)) w).bind fun y3 => ((y0a l2 y2).bind fun y4 => ((y0d c).bind fun y5 => (bif (inR y4 y3.2.length) then (bif (inR (offs y4 0) y3.2.length) then ((ym l2 y2).bind fun y6 => (bif (inR y6 (List.length (List.set y3.2 (offs y4 0).toNat y5))) then (bif (inR (offs y6 0) (List.length (List.set y3.2 (offs y4 0).toNat y5))) then ((y0d c).bind fun y7 => ((y3f (List.getD (List.set y3.2 (offs y4 0).toNat y5) (offs y6 0).toNat 0) y7).bind fun y8 => ((ym l2 y2).bind fun y9 => ((ym l2 y2).bind fun y10 => (bif (inR y10 (List.length (List.set y3.2 (offs y4 0).toNat y5))) then (bif (inR (offs y10 0) (List.length (List.set y3.2 (offs y4 0).toNat y5))) then ((y3e (List.getD (List.set y3.2 (offs y4 0).toNat y5) (offs y10 0).toNat 0) y8).bind fun y11 => (bif (inR y9 (List.length (List.set y3.2 (offs y4 0).toNat y5))) then (bif (inR (offs y9 0) (List.length (List.set y3.2 (offs y4 0).toNat y5))) then ((y0a l2 y2).bind fun y12 => (bif (inR y12 (List.length (List.set (List.set y3.2 (offs y4 0).toNat y5) (offs y9 0).toNat y11))) then (bif (inR (offs y12 0) (List.length (List.set (List.set y3.2 (offs y4 0).toNat y5) (offs y9 0).toNat y11))) then (bif (inR y12 (List.length (List.set (List.set y3.2 (offs y4 0).toNat y5) (offs y9 0).toNat y11))) then (bif (inR (offs y12 0) (List.length (List.set (List.set y3.2 (offs y4 0).toNat y5) (offs y9 0).toNat y11))) then ((y0a l2 y2).bind fun y13 => (bif (inR y13 (List.length (List.set (List.set (List.set y3.2 (offs y4 0).toNat y5) (offs y9 0).toNat y11) (offs y12 0).toNat (IntKind.i64.wrap (List.getD (List.set (List.set y3.2 (offs y4 0).toNat y5) (offs y9 0).toNat y11) (offs y12 0).toNat 0 - 1))))) then (bif (inR (offs y13 0) (List.length (List.set (List.set (List.set y3.2 (offs y4 0).toNat y5) (offs y9 0).toNat y11) (offs y12 0).toNat (IntKind.i64.wrap (List.getD (List.set (List.set y3.2 (offs y4 0).toNat y5) (offs y9 0).toNat y11) (offs y12 0).toNat 0 - 1))))) then ((y1w l2 y2 c (List.getD (List.set (List.set (List.set y3.2 (offs y4 0).toNat y5) (offs y9 0).toNat y11) (offs y12 0).toNat (IntKind.i64.wrap (List.getD (List.set (List.set y3.2 (offs y4 0).toNat y5) (offs y9 0).toNat y11) (offs y12 0).toNat 0 - 1))) (offs y13 0).toNat 0) (List.set (List.set (List.set y3.2 (offs y4 0).toNat y5) (offs y9 0).toNat y11) (offs y12 0).toNat (IntKind.i64.wrap (List.getD (List.set (List.set y3.2 (offs y4 0).toNat y5) (offs y9 0).toNat y11) (offs y12 0).toNat 0 - 1)))).bind fun y14 => ((y3c l2 y2).bind fun y15 => ((y0j c).bind fun y16 => some ((IntKind.i64.wrap (y15 + IntKind.i64.wrap (y8 * y16))), true, y14.2)))) else none) else none)) else none) else none) else none) else none)) else none) else none)) else none) else none))))) else none) else none)) else none) else none)))))) else ((y0a l2 y1).bind fun y17 => (bif (inR y17 w.length) then (bif (inR (offs y17 0) w.length) then ((y2i l2 y1 c (w.getD (offs y17 0).toNat 0) w).bind fun y18 => ((ym l2 y1).bind fun y19 => (bif (inR y19 y18.2.length) then (bif (inR (offs y19 0) y18.2.length) then ((y0d c).bind fun y20 => ((y3f (y18.2.getD (offs y19 0).toNat 0) y20).bind fun y21 => ((ym l2 y1).bind fun y22 => ((ym l2 y1).bind fun y23 => (bif (inR y23 y18.2.length) then (bif (inR (offs y23 0) y18.2.length) then ((y3e (y18.2.getD (offs y23 0).toNat 0) y21).bind fun y24 => (bif (inR y22 y18.2.length) then (bif (inR (offs y22 0) y18.2.length) then ((y0a l2 y1).bind fun y25 => (bif (inR y25 (List.length (List.set y18.2 (offs y22 0).toNat y24))) then (bif (inR (offs y25 0) (List.length (List.set y18.2 (offs y22 0).toNat y24))) then (bif (inR y25 (List.length (List.set y18.2 (offs y22 0).toNat y24))) then (bif (inR (offs y25 0) (List.length (List.set y18.2 (offs y22 0).toNat y24))) then ((y0a l2 y1).bind fun y26 => (bif (inR y26 (List.length (List.set (List.set y18.2 (offs y22 0).toNat y24) (offs y25 0).toNat (IntKind.i64.wrap (List.getD (List.set y18.2 (offs y22 0).toNat y24) (offs y25 0).toNat 0 - 1))))) then (bif (inR (offs y26 0) (List.length (List.set (List.set y18.2 (offs y22 0).toNat y24) (offs y25 0).toNat (IntKind.i64.wrap (List.getD (List.set y18.2 (offs y22 0).toNat y24) (offs y25 0).toNat 0 - 1))))) then ((y1w l2 y1 c (List.getD (List.set (List.set y18.2 (offs y22 0).toNat y24) (offs y25 0).toNat (IntKind.i64.wrap (List.getD (List.set y18.2 (offs y22 0).toNat y24) (offs y25 0).toNat 0 - 1))) (offs y26 0).toNat 0) (List.set (List.set y18.2 (offs y22 0).toNat y24) (offs y25 0).toNat (IntKind.i64.wrap (List.getD (List.set y18.2 (offs y22 0).toNat y24) (offs y25 0).toNat 0 - 1)))).bind fun y27 => ((y3c l2 y1).bind fun y28 => ((y0j c).bind fun y29 => some ((IntKind.i64.wrap (y28 + IntKind.i64.wrap (y21 * y29))), true, y27.2)))) else none) else none)) else none) else none) else none) else none)) else none) else none)) else none) else none))))) else none) else none))) else none) else none))))))
def y2u (l2 : T_assartref02_Layout) (a : Int) (w : List Int) : Option (Bool × (List Int)) :=
  ((y1d l2 a w).bind fun y0 => (bif (!y0.2) then some (false, w) else ((y2l l2 a).bind fun y1 => ((y0a l2 y1.1).bind fun y2 => (bif (inR y2 w.length) then (bif (inR (offs y2 0) w.length) then ((y2i l2 y1.1 y0.1 (w.getD (offs y2 0).toNat 0) w).bind fun y3 => ((ym l2 y1.1).bind fun y4 => ((ym l2 y1.1).bind fun y5 => (bif (inR y5 y3.2.length) then (bif (inR (offs y5 0) y3.2.length) then ((y0j y0.1).bind fun y6 => (bif (!y6 == 0) then ((y3q (y3.2.getD (offs y5 0).toNat 0) (IntKind.i64.wrap (Int.tdiv y1.2.1 y6))).bind fun y7 => (bif (inR y4 y3.2.length) then (bif (inR (offs y4 0) y3.2.length) then ((y0a l2 y1.1).bind fun y8 => (bif (inR y8 (List.length (List.set y3.2 (offs y4 0).toNat y7))) then (bif (inR (offs y8 0) (List.length (List.set y3.2 (offs y4 0).toNat y7))) then (bif (inR y8 (List.length (List.set y3.2 (offs y4 0).toNat y7))) then (bif (inR (offs y8 0) (List.length (List.set y3.2 (offs y4 0).toNat y7))) then ((y0a l2 y1.1).bind fun y9 => (bif (inR y9 (List.length (List.set (List.set y3.2 (offs y4 0).toNat y7) (offs y8 0).toNat (IntKind.i64.wrap (List.getD (List.set y3.2 (offs y4 0).toNat y7) (offs y8 0).toNat 0 + 1))))) then (bif (inR (offs y9 0) (List.length (List.set (List.set y3.2 (offs y4 0).toNat y7) (offs y8 0).toNat (IntKind.i64.wrap (List.getD (List.set y3.2 (offs y4 0).toNat y7) (offs y8 0).toNat 0 + 1))))) then ((y0d y0.1).bind fun y10 => (bif (List.getD (List.set (List.set y3.2 (offs y4 0).toNat y7) (offs y8 0).toNat (IntKind.i64.wrap (List.getD (List.set y3.2 (offs y4 0).toNat y7) (offs y8 0).toNat 0 + 1))) (offs y9 0).toNat 0 == y10) then ((y44 l2 y1.1 (List.set (List.set y3.2 (offs y4 0).toNat y7) (offs y8 0).toNat (IntKind.i64.wrap (List.getD (List.set y3.2 (offs y4 0).toNat y7) (offs y8 0).toNat 0 + 1)))).bind fun y11 => some (true, y11.2)) else ((y0a l2 y1.1).bind fun y12 => (bif (inR y12 (List.length (List.set (List.set y3.2 (offs y4 0).toNat y7) (offs y8 0).toNat (IntKind.i64.wrap (List.getD (List.set y3.2 (offs y4 0).toNat y7) (offs y8 0).toNat 0 + 1))))) then (bif (inR (offs y12 0) (List.length (List.set (List.set y3.2 (offs y4 0).toNat y7) (offs y8 0).toNat (IntKind.i64.wrap (List.getD (List.set y3.2 (offs y4 0).toNat y7) (offs y8 0).toNat 0 + 1))))) then ((y1w l2 y1.1 y0.1 (List.getD (List.set (List.set y3.2 (offs y4 0).toNat y7) (offs y8 0).toNat (IntKind.i64.wrap (List.getD (List.set y3.2 (offs y4 0).toNat y7) (offs y8 0).toNat 0 + 1))) (offs y12 0).toNat 0) (List.set (List.set y3.2 (offs y4 0).toNat y7) (offs y8 0).toNat (IntKind.i64.wrap (List.getD (List.set y3.2 (offs y4 0).toNat y7) (offs y8 0).toNat 0 + 1)))).bind fun y13 => some (true, y13.2)) else none) else none)))) else none) else none)) else none) else none) else none) else none)) else none) else none)) else none)) else none) else none)))) else none) else none)))))
attribute [local irreducible] Loop ex exF contK roundK retK at_ bodyOf mkEnv
theorem yet : SpecOK Tryz.prog elTT 45 (y8p y1d) := by
  refine spec_of_exF (cfg := (yg1 y2l y06 y0j ym yp)) (yg rfl rfl rfl) (yc yfj (yc y7l (yc y70 (yc y6a (yc y6f yh))))) (fn := Tryz.f45) (by kernel_rfl) (by kernel_rfl) (by kernel_rfl) ?_
  intro args H K h
  change y91 y1d args H K at h
  unfold y91 at h
  repeat first | (obtain ⟨_, h⟩ := h) | replace h := Des.el h
  subst_vars
  refine Eq.mpr (yml y2l y06 y0j ym yp _ _ _ K) ?_
  unfold y1d at h
  revert h
  exact bind_So fun y0 => br_So (fun h => h) (bind_So fun y1 => req_So (req_So (bind_So fun y2 => br_So (fun h => h) (req_So (br_So (fun h => h) (req_So (bind_So fun y3 => req_So (req_So (bind_So fun y4 => br_So (fun h => h) (fun h => h))))))))))
theorem ypr : SpecOK Tryz.prog elTT 46 (ydm y2v) := by
  refine spec_of_exF (cfg := (ydn y1y)) (yg rfl rfl rfl) (yc yh3 yh) (fn := Tryz.f46) (by kernel_rfl) (by kernel_rfl) (by kernel_rfl) ?_
  intro args H K h
  change ybn y2v args H K at h
  unfold ybn at h
  repeat first | (obtain ⟨_, h⟩ := h) | replace h := Des.el h
  subst_vars
  refine Eq.mpr (yl3 y1y _ _ _ K) ?_
  unfold y2v at h
  revert h
  exact bind_So fun y0 => fun h => h
theorem lpok_ref11_Free_L1 (l2 : T_assartref02_Layout) (c : Int) (w : List Int) (n p : Int) (K : V → Heap → Prop) : So (y94 l2 c w (n, p)) (fun (x : Int) => K (vi x) [.row 0 w true]) → Loop (y4t y06 y0d ym y1r) (⟨48, 1⟩ : Cx) (at_ (bodyOf Tryz.f47) [1, 1, 0, 1, 0, 0]) (mkEnv [(1, .row 0), (2, vi c), (3, .ptr 1 0), (7, vi n), (8, vi p)]) [.row 0 w true, .cells 30 (ye l2.C)] (contK (y4t y06 y0d ym y1r) (⟨48, 1⟩ : Cx) (bodyOf Tryz.f47) [1, 1, 0, 1, 0] (retK (y4t y06 y0d ym y1r) Tryz.f47 1 K)) := by
  refine loopK_So (fun (s_ : Int × Int) => (mkEnv [(1, .row 0), (2, vi c), (3, .ptr 1 0), (7, vi s_.1), (8, vi s_.2)])) (fun (s_ : Int × Int) => [.row 0 w true, .cells 30 (ye l2.C)]) (fun (x : Int) => K (vi x) [.row 0 w true]) ?_ (n, p)
  intro s_ J1 h
  clear n
  clear p
  obtain ⟨n, p⟩ := s_
  refine Eq.mpr (ypy y06 y0d ym y1r l2 c w n p K J1) ?_
  have h : So (y6s l2 c w n p) _ := h
  unfold y6s at h
  revert h
  exact br_So (br_So (br_So (bind_So fun y0 => req_So (req_So (br_So (bind_So fun y1 => bind_So fun y2 => req_So (req_So (bind_So fun y3 => bind_So fun y4 => fun h => h))) (fun h => h)))) (fun h => h)) (fun h => h)) (fun h => h)
theorem ymx : SpecOK Tryz.prog elTT 47 (yfh y3b) := by
  refine spec_of_exF (cfg := (y4t y06 y0d ym y1r)) (yg rfl rfl rfl) (yc y7l (yc ybj (yc y6a (yc ynp yh)))) (fn := Tryz.f47) (by kernel_rfl) (by kernel_rfl) (by kernel_rfl) ?_
  intro args H K h
  change y80 y3b args H K at h
  unfold y80 at h
  repeat first | (obtain ⟨_, h⟩ := h) | replace h := Des.el h
  subst_vars
  refine Eq.mpr (yjz y06 y0d ym y1r _ _ _ K) ?_
  unfold y3b at h
  revert h
  exact lpok_ref11_Free_L1 _ _ _ _ _ K
theorem yly : SpecOK Tryz.prog elTT 43 (yec y3a) := by
  refine spec_of_exF (cfg := (yef y0j y1y y3k y3y y0a y0d y2i ym y3f y3e y1w y3c)) (yg rfl rfl rfl) (yc y70 (yc yh3 (yc ykj (yc ynx (yc y8i (yc ybj (yc yhb (yc y6a (yc yqg (yc ylv (yc yjl (yc ylk yh)))))))))))) (fn := Tryz.f43) (by kernel_rfl) (by kernel_rfl) (by kernel_rfl) ?_
  intro args H K h
  change yct y3a args H K at h
  unfold yct at h
  repeat first | (obtain ⟨_, h⟩ := h) | replace h := Des.el h
  subst_vars
  refine Eq.mpr (yk6 y0j y1y y3k y3y y0a y0d y2i ym y3f y3e y1w y3c _ _ _ K) ?_
  unfold y3a at h
  revert h
  exact bind_So fun y0 => br_So (fun h => h) (bind_So fun y1 => br_So (bind_So fun y2 => br_So (fun h => h) (bind_So fun y3 => bind_So fun y4 => bind_So fun y5 => req_So (req_So (bind_So fun y6 => req_So (req_So (bind_So fun y7 => bind_So fun y8 => bind_So fun y9 => bind_So fun y10 => req_So (req_So (bind_So fun y11 => req_So (req_So (bind_So fun y12 => req_So (req_So (req_So (req_So (bind_So fun y13 => req_So (req_So (bind_So fun y14 => bind_So fun y15 => bind_So fun y16 => fun h => h)))))))))))))))) (bind_So fun y17 => req_So (req_So (bind_So fun y18 => bind_So fun y19 => req_So (req_So (bind_So fun y20 => bind_So fun y21 => bind_So fun y22 => bind_So fun y23 => req_So (req_So (bind_So fun y24 => req_So (req_So (bind_So fun y25 => req_So (req_So (req_So (req_So (bind_So fun y26 => req_So (req_So (bind_So fun y27 => bind_So fun y28 => bind_So fun y29 => fun h => h))))))))))))))))
theorem ykf : SpecOK Tryz.prog elTT 44 (yjr y2u) := by
  refine spec_of_exF (cfg := (yg4 y1d y2l y0a y2i ym y0j y3q y0d y44 y1w)) (yg rfl rfl rfl) (yc yet (yc yfj (yc y8i (yc yhb (yc y6a (yc y70 (yc ym2 (yc ybj (yc ynz (yc yjl yh)))))))))) (fn := Tryz.f44) (by kernel_rfl) (by kernel_rfl) (by kernel_rfl) ?_
  intro args H K h
  change yaz y2u args H K at h
  unfold yaz at h
  repeat first | (obtain ⟨_, h⟩ := h) | replace h := Des.el h
  subst_vars
  refine Eq.mpr (yma y1d y2l y0a y2i ym y0j y3q y0d y44 y1w _ _ _ K) ?_
  unfold y2u at h
  revert h
  exact bind_So fun y0 => br_So (fun h => h) (bind_So fun y1 => bind_So fun y2 => req_So (req_So (bind_So fun y3 => bind_So fun y4 => bind_So fun y5 => req_So (req_So (bind_So fun y6 => req_So (bind_So fun y7 => req_So (req_So (bind_So fun y8 => req_So (req_So (req_So (req_So (bind_So fun y9 => req_So (req_So (bind_So fun y10 => br_So (bind_So fun y11 => fun h => h) (bind_So fun y12 => req_So (req_So (bind_So fun y13 => fun h => h)))))))))))))))))
end Go.Rx
end

section
namespace Go.Rx
open Go.Proofs
section
variable {c : yb} {w inn : List Int} {ls : Int → Int → List Int}
theorem rAddr_eq (h : RightC c) (p : Int) : y3c ⟨c⟩ p = some (lAddr (layC c) p) := by
  unfold y3c
  have hb := (layC_ok h).big; have ha := (layC_ok h).a11; have hp := h.pages
  have e0 : (layC c).c = c := rfl
  rw [e0] at ha
  simp only [rUser_eq h, Option.bind_some, rat_eq, lAddr, e0]
  by_cases x : 0 ≤ p
  · rw [decide_eq_true (show p ≥ 0 from x), cond_true]
    by_cases b : p < c.Pages
    · rw [decide_eq_true b, if_pos rfl, if_pos ⟨x, b⟩, wrap_id (x := 32 * p) (by omega) (by omega), wrap_id (by omega) (by omega), Int.mul_comm]
    · rw [decide_eq_false b, if_neg (by decide), if_neg (by omega)]
  · rw [decide_eq_false (show ¬ p ≥ 0 from x), cond_false, if_neg (by decide), if_neg (by omega)]
theorem rPlace_eq (h : RightC c) (a : Int) : y2l ⟨c⟩ a = some (lPlace (layC c) a) := by
  unfold y2l
  have hb := (layC_ok h).big; have ha := (layC_ok h).a11; have hp := h.pages
  have e0 : (layC c).c = c := rfl
  rw [e0] at ha
  simp only [rUser_eq h, rWords_eq h, Option.bind_some, lPlace]
  by_cases x : a < (layC c).at_10
  · rw [decide_eq_true x, cond_true, if_neg (by omega)]
  · rw [decide_eq_false x, cond_false]
    by_cases b : a ≥ (layC c).at_11
    · rw [decide_eq_true b, cond_true, if_neg (by omega)]
    · rw [decide_eq_false b, cond_false, if_pos (by omega), wrap_id (x := a - (layC c).at_10) (by omega) (by omega), Int.tdiv_eq_ediv_of_nonneg (by omega), Int.tmod_eq_emod_of_nonneg (by omega), wrap_id (by omega) (by omega)]
theorem rSize_eq (q : Int) : y0j q = some (sizeC q) := by
  unfold y0j
  by_cases a : q < 0
  · rw [decide_eq_true a, cond_true, sizeC_no (by omega)]
  rw [decide_eq_false a, cond_false]
  by_cases b : q > 4
  · rw [decide_eq_true b, cond_true, sizeC_no (by omega)]
  rw [decide_eq_false b, cond_false]
  have e : q = 0 ∨ q = 1 ∨ q = 2 ∨ q = 3 ∨ q = 4 := by omega
  rcases e with rfl | rfl | rfl | rfl | rfl
  · exact loopO_end rfl
  · exact (loopO_go rfl).trans (loopO_end rfl)
  · exact (loopO_go rfl).trans ((loopO_go rfl).trans (loopO_end rfl))
  · exact (loopO_go rfl).trans ((loopO_go rfl).trans ((loopO_go rfl).trans (loopO_end rfl)))
  · exact (loopO_go rfl).trans ((loopO_go rfl).trans ((loopO_go rfl).trans ((loopO_go rfl).trans (loopO_end rfl))))
theorem rSlots3_eq (q : Int) : y0d q = some (slotsC q) := by
  unfold y0d
  by_cases a : q < 0
  · rw [decide_eq_true a, cond_true, slotsC_no (by omega)]
  rw [decide_eq_false a, cond_false]
  by_cases b : q > 4
  · rw [decide_eq_true b, cond_true, slotsC_no (by omega)]
  rw [decide_eq_false b, cond_false, rSize_eq, Option.bind_some]
  have e : q = 0 ∨ q = 1 ∨ q = 2 ∨ q = 3 ∨ q = 4 := by omega
  rcases e with rfl | rfl | rfl | rfl | rfl <;> rfl
theorem rpage_at (h : RightC c) (v : VOK (layC c) w.length w) {p : Int} (hp : 0 ≤ p ∧ p < c.Pages) :
    (y06 ⟨c⟩ p = some ((layC c).at_1 + p) ∧ y0a ⟨c⟩ p = some ((layC c).at_2 + p) ∧ ym ⟨c⟩ p = some ((layC c).at_3 + p)) ∧
    (offs ((layC c).at_1 + p) 0 = (layC c).at_1 + p ∧ offs ((layC c).at_2 + p) 0 = (layC c).at_2 + p ∧ offs ((layC c).at_3 + p) 0 = (layC c).at_3 + p) ∧
    (inR ((layC c).at_1 + p) w.length = true ∧ inR ((layC c).at_2 + p) w.length = true ∧ inR ((layC c).at_3 + p) w.length = true) := by
  have g := v.lay.geo11; have hpg := h.pages
  have e0 : (layC c).c = c := rfl
  rw [e0] at g
  refine ⟨⟨?_, ?_, ?_⟩, ⟨offs_id (by omega), offs_id (by omega), offs_id (by omega)⟩, page_at v hp⟩
  · rw [rKind_eq h, lPg_in (L := layC c) hp]
  · rw [rCount_eq h, lPg_in (L := layC c) hp]
  · rw [rBits_eq h, lPg_in (L := layC c) hp]
noncomputable def grabT (c : yb) (p q : Int) (x : List Int) : Option (Int × Bool × List Int) :=
  ((ym ⟨c⟩ p).bind fun y19 => (bif (inR y19 (List.length x)) then (bif (inR (offs y19 0) (List.length x)) then ((y0d q).bind fun y20 => ((y3f (List.getD x (Int.toNat (offs y19 0)) 0) y20).bind fun y21 => ((ym ⟨c⟩ p).bind fun y22 => ((ym ⟨c⟩ p).bind fun y23 => (bif (inR y23 (List.length x)) then (bif (inR (offs y23 0) (List.length x)) then ((y3e (List.getD x (Int.toNat (offs y23 0)) 0) y21).bind fun y24 => (bif (inR y22 (List.length x)) then (bif (inR (offs y22 0) (List.length x)) then ((y0a ⟨c⟩ p).bind fun y25 => (bif (inR y25 (List.length (List.set x (Int.toNat (offs y22 0)) y24))) then (bif (inR (offs y25 0) (List.length (List.set x (Int.toNat (offs y22 0)) y24))) then (bif (inR y25 (List.length (List.set x (Int.toNat (offs y22 0)) y24))) then (bif (inR (offs y25 0) (List.length (List.set x (Int.toNat (offs y22 0)) y24))) then ((y0a ⟨c⟩ p).bind fun y26 => (bif (inR y26 (List.length (List.set (List.set x (Int.toNat (offs y22 0)) y24) (Int.toNat (offs y25 0)) (IntKind.wrap IntKind.i64 (List.getD (List.set x (Int.toNat (offs y22 0)) y24) (Int.toNat (offs y25 0)) 0 - 1))))) then (bif (inR (offs y26 0) (List.length (List.set (List.set x (Int.toNat (offs y22 0)) y24) (Int.toNat (offs y25 0)) (IntKind.wrap IntKind.i64 (List.getD (List.set x (Int.toNat (offs y22 0)) y24) (Int.toNat (offs y25 0)) 0 - 1))))) then ((y1w ⟨c⟩ p q (List.getD (List.set (List.set x (Int.toNat (offs y22 0)) y24) (Int.toNat (offs y25 0)) (IntKind.wrap IntKind.i64 (List.getD (List.set x (Int.toNat (offs y22 0)) y24) (Int.toNat (offs y25 0)) 0 - 1))) (Int.toNat (offs y26 0)) 0) (List.set (List.set x (Int.toNat (offs y22 0)) y24) (Int.toNat (offs y25 0)) (IntKind.wrap IntKind.i64 (List.getD (List.set x (Int.toNat (offs y22 0)) y24) (Int.toNat (offs y25 0)) 0 - 1)))).bind fun y27 => ((y3c ⟨c⟩ p).bind fun y28 => ((y0j q).bind fun y29 => some (((IntKind.wrap IntKind.i64 (y28 + IntKind.wrap IntKind.i64 (y21 * y29))), (Bool.true), (Prod.snd y27)))))) else none) else none)) else none) else none) else none) else none)) else none) else none)) else none) else none))))) else none) else none))
theorem grabT_eq (h : RightC c) {x inn1 : List Int} {ls1 : Int → Int → List Int} {p q i : Int} {m : Nat} (v : VOK (layC c) x.length x) (r1 : RepW (layC c).at_4 c.Pages x inn1 ls1) (hz : wd inn1 p = 0) (hp : 0 ≤ p ∧ p < c.Pages)
    (hq : 0 ≤ q ∧ q < 5) (hb : bw (layC c) x p = m) (hm : m < 2 ^ (slotsC q).toNat) (hlt : popN m (slotsC q).toNat < (slotsC q).toNat) (hcw : cw (layC c) x p = slotsC q - popN m (slotsC q).toNat) (hi : IsFirst m (slotsC q).toNat i) :
    grabT c p q x = some ((layC c).at_10 + p * 32 + i * sizeC q, true, turnW (layC c) x p q ((m + 2 ^ i.toNat : Nat) : Int) (cw (layC c) x p - 1)) := by
  have g := v.lay.geo11; have hpg := h.pages; have hall := v.all
  have e0 : (layC c).c = c := rfl
  rw [e0] at g
  obtain ⟨s1, s2, s3⟩ := slots_pow hq
  have h4 := bits_lt hm s1
  obtain ⟨i0, i1, i2⟩ := isFirst_ge hi hlt
  have hmul := mul_size hq (i := i) ⟨i0, by omega⟩
  have hsz := sizeC_in hq
  obtain ⟨⟨_, k2, k3⟩, ⟨_, o2, o3⟩, _, r2, r3⟩ := rpage_at h v hp
  obtain ⟨r, f1, f2⟩ := rFirst04_is (m := m) (n := (slotsC q).toNat) h4 s1
  have er := f2.uniq hi
  subst er
  rw [s3] at f1
  have g3 : x.getD ((layC c).at_3 + p).toNat 0 = (m : Int) := hb
  generalize hn : cw (layC c) x p = n at *
  have w1 : ∀ b, 0 ≤ b → wd (x.set ((layC c).at_3 + p).toNat ((m + 2 ^ r.toNat : Nat) : Int)) b = if b = (layC c).at_3 + p then ((m + 2 ^ r.toNat : Nat) : Int) else wd x b := fun b hb => wd_set (by omega) hb
  have g2 : (x.set ((layC c).at_3 + p).toNat ((m + 2 ^ r.toNat : Nat) : Int)).getD ((layC c).at_2 + p).toNat 0 = n := by
    refine (w1 _ (by omega)).trans ?_
    rw [if_neg (by omega)]; exact hn
  have w2 : ∀ b, 0 ≤ b → wd ((x.set ((layC c).at_3 + p).toNat ((m + 2 ^ r.toNat : Nat) : Int)).set ((layC c).at_2 + p).toNat (n - 1)) b = if b = (layC c).at_2 + p then n - 1 else if b = (layC c).at_3 + p then ((m + 2 ^ r.toNat : Nat) : Int) else wd x b := fun b hb => by
    rw [wd_set (by rw [List.length_set]; omega) hb, w1 b hb]
  have g4 : ((x.set ((layC c).at_3 + p).toNat ((m + 2 ^ r.toNat : Nat) : Int)).set ((layC c).at_2 + p).toNat (n - 1)).getD ((layC c).at_2 + p).toNat 0 = n - 1 := by
    refine (w2 _ (by omega)).trans ?_
    rw [if_pos rfl]
  have vy : VOK (layC c) ((x.set ((layC c).at_3 + p).toNat ((m + 2 ^ r.toNat : Nat) : Int)).set ((layC c).at_2 + p).toNat (n - 1)).length ((x.set ((layC c).at_3 + p).toNat ((m + 2 ^ r.toNat : Nat) : Int)).set ((layC c).at_2 + p).toNat (n - 1)) := ⟨v.lay, rfl, by simpa using hall⟩
  have ry : RepW (layC c).at_4 c.Pages ((x.set ((layC c).at_3 + p).toNat ((m + 2 ^ r.toNat : Nat) : Int)).set ((layC c).at_2 + p).toNat (n - 1)) inn1 ls1 := r1.congr (by omega) (by omega) (fun b h0 h1 => by rw [w2 b (by omega), if_neg (by omega), if_neg (by omega)])
  unfold grabT
  simp only [k2, k3, o2, o3, r2, r3, g3, g2, rSlots3_eq, f1, rSet_eq h4 ⟨i0, by omega⟩ i2, Option.bind_some, List.length_set, cond_true]
  rw [show IntKind.wrap IntKind.i64 (n - 1) = n - 1 from wrap_id (by omega) (by omega), g4, rLink_eq h vy (xs := ls1 q (n - 1)) (fun k => ry.lst _ _ k) (fun k _ _ hm => by
    have := ((ry.mem _ _ k p).1 hm).2
    have := k.1; have := k.2; omega), Option.bind_some, rAddr_eq h, Option.bind_some, rSize_eq, Option.bind_some]
  unfold lAddr turnW
  rw [e0, if_pos hp, wrap_id (x := r * sizeC q) (by omega) (by omega), wrap_id (by omega) (by omega), if_neg (show ¬ n - 1 = slotsC q by omega)]
  by_cases hL : isL q (n - 1)
  · rw [if_pos ⟨hL, hp⟩, if_pos hL]
  · rw [if_neg (fun x => hL x.1), if_neg hL]
theorem rGrab_eq (h : RightC c) (v : VOK (layC c) w.length w) (i : Inv11 (layC c) w inn ls) (q : Int) : ∃ a b x, y3a ⟨c⟩ q w = some (a, b, x) ∧ GrabS (layC c) ls w q a b x := by
  have g := v.lay.geo11; have hpg := h.pages
  have e0 : (layC c).c = c := rfl
  rw [e0] at g
  have hn := v.all
  by_cases hq : 0 ≤ q ∧ q < 5
  rotate_left
  · refine ⟨_, _, _, ?_, .no (.inl hq)⟩
    unfold y3a
    rw [rSize_eq, Option.bind_some, sizeC_no hq]
    rfl
  obtain ⟨z1, z2, z3⟩ := sizeC_in hq
  obtain ⟨s1, s2, s3⟩ := slots_pow hq
  have hfst : y1y ⟨c⟩ q w = some (firstF ls q 1 (slotsC q).toNat) := rFirst_eq h v (fun f k => i.rep.lst _ _ k)
  rcases first_cls i hq rfl with ⟨hf, _⟩ | ⟨hp, ⟨m, f⟩, h1, hmem, _⟩
  · obtain ⟨p, e1, e2⟩ := r9Find_eq h v 1 1
    rcases find_free e2 with ⟨e3, e4⟩ | ⟨hp, hk⟩
    · refine ⟨_, _, _, ?_, .no (.inr ⟨hf, e4⟩)⟩
      unfold y3a
      rw [rSize_eq, Option.bind_some, beq_eq_false_iff_ne.2 (show sizeC q ≠ 0 by omega), cond_false, hfst, Option.bind_some, hf, decide_eq_true (by omega), cond_true, e1, Option.bind_some, decide_eq_true (by omega), cond_true]
    · have hyes : MayTake (layC c) w p 1 (q + 1) := ⟨by omega, fun _ => rfl, ⟨by omega, fun j j0 j1 => by
        have : p + j = p := by omega
        rw [this]; exact hk⟩⟩
      obtain ⟨u', _, t2⟩ := eTake_yes v hyes (by rw [e0] at hp; unfold I64; omega)
      obtain ⟨u, t1, t3⟩ := r9Take_yes h v hyes
      have eu := t3 u' t2
      subst eu
      obtain ⟨hl, hw⟩ := new_page v.lay hn hp hq t2
      have hpc : 0 ≤ p ∧ p < c.Pages := hp
      have vu : VOK (layC c) u.length u := ⟨v.lay, rfl, by rw [hl]; exact v.all⟩
      obtain ⟨⟨_, k2, k3⟩, ⟨_, o2, o3⟩, _, r2, r3⟩ := rpage_at h vu hpc
      have f : FreeOK (layC c) w inn p := by
        rcases i.pg p hp.1 hp.2 with f | ⟨c', m, f⟩
        · exact f
        · have := f.kind; have := f.cls; omega
      have ec : cw (layC c) (u.set ((layC c).at_2 + p).toNat (slotsC q)) p = slotsC q := by unfold cw; rw [hw _ (by omega), if_neg (by omega), if_pos rfl]
      have eb : bw (layC c) (u.set ((layC c).at_2 + p).toNat (slotsC q)) p = ((0 : Nat) : Int) := by unfold bw; rw [hw _ (by omega), if_neg (by omega), if_neg (by omega), if_pos rfl]; rfl
      have rv : RepW (layC c).at_4 c.Pages (u.set ((layC c).at_2 + p).toNat (slotsC q)) inn ls := i.rep.congr (by omega) (by rw [e0]; omega) (fun b h0 h1 => by rw [e0] at h1; rw [hw b (by omega), if_neg (by omega), if_neg (by omega), if_neg (by omega)])
      have hz := popN_zero (slotsC q).toNat
      have hi0 : IsFirst 0 (slotsC q).toNat 0 := .inr ⟨by omega, by omega, by simp, fun k hk => by omega⟩
      have vv : VOK (layC c) (u.set ((layC c).at_2 + p).toNat (slotsC q)).length (u.set ((layC c).at_2 + p).toNat (slotsC q)) := ⟨v.lay, rfl, by rw [List.length_set, hl]; exact v.all⟩
      have gt := grabT_eq h vv rv f.linked hpc hq eb (Nat.two_pow_pos _) (by omega) (by rw [ec]; omega) hi0
      rw [ec] at gt
      refine ⟨_, _, _, ?_, GrabS.new hq hf e2 hp.1 t2⟩
      have gt' : grabT c p q (u.set ((layC c).at_2 + p).toNat (slotsC q)) = some ((layC c).at_10 + p * 32, true, turnW (layC c) (u.set ((layC c).at_2 + p).toNat (slotsC q)) p q 1 (slotsC q - 1)) := by
        rw [gt, show (layC c).at_10 + p * 32 + 0 * sizeC q = (layC c).at_10 + p * 32 by omega]; rfl
      rw [← gt']
      unfold y3a
      rw [rSize_eq, Option.bind_some, beq_eq_false_iff_ne.2 (show sizeC q ≠ 0 by omega), cond_false, hfst, Option.bind_some, hf, decide_eq_true (by omega), cond_true, e1, Option.bind_some, decide_eq_false (by omega), cond_false, wrap_id (x := q + 1) (by omega) (by omega), t1, Option.bind_some,
        k2, Option.bind_some, rSlots3_eq, Option.bind_some]
      simp only [o2, r2, cond_true]
      unfold grabT
      simp only [k2, rSlots3_eq, rSize_eq]
  · have hlf := f.left
    have hn' : (layC c).at_11 ≤ (w.length : Int) := v.all
    obtain ⟨ls', r1, hlen, hoff⟩ := cls_rep v.lay hn' i.rep hp f
    generalize hpp : firstF ls q 1 (slotsC q).toNat = p at *
    have hpc : 0 ≤ p ∧ p < c.Pages := hp
    have hltp : popN m (slotsC q).toNat < (slotsC q).toNat := by omega
    obtain ⟨j, _, j1⟩ := First_is (m := m) (n := (slotsC q).toNat) (bits_lt f.lt s1) s1
    obtain ⟨j0, _, _⟩ := isFirst_ge j1 hltp
    have hil : (inn.length : Int) = c.Pages := i.rep.len
    have ecw : cw (layC c) (unl (layC c) ls w p q (cw (layC c) w p)) p = cw (layC c) w p := hoff _ (by omega) (.inl (by omega))
    have ebw : bw (layC c) (unl (layC c) ls w p q (cw (layC c) w p)) p = (m : Int) := (hoff _ (by omega) (.inl (by omega))).trans f.bits
    have vx : VOK (layC c) (unl (layC c) ls w p q (cw (layC c) w p)).length (unl (layC c) ls w p q (cw (layC c) w p)) := ⟨v.lay, rfl, by rw [hlen]; exact v.all⟩
    have gt := grabT_eq h vx r1 (by rw [wd_set (by omega) hp.1, if_pos rfl]) hpc hq ebw f.lt hltp (by rw [ecw]; exact hlf) j1
    rw [ecw] at gt
    refine ⟨_, _, _, ?_, GrabS.old hq hp.1 hpp f.bits j1 j0⟩
    rw [← gt]
    obtain ⟨⟨_, k2, k3⟩, ⟨_, o2, o3⟩, _, r2, r3⟩ := rpage_at h v hpc
    unfold y3a
    rw [rSize_eq, Option.bind_some, beq_eq_false_iff_ne.2 (show sizeC q ≠ 0 by omega), cond_false, hfst, Option.bind_some, decide_eq_false (by omega), cond_false, k2, Option.bind_some, r2, cond_true, o2, r2, cond_true]
    have eg : w.getD ((layC c).at_2 + p).toNat 0 = cw (layC c) w p := rfl
    rw [eg, rUnlink_eq h v (xs := ls q (cw (layC c) w p)) (fun k => i.rep.lst _ _ k), Option.bind_some]
    have e2 : (if isL q (cw (layC c) w p) ∧ p ∈ ls q (cw (layC c) w p) then (true, unlinkW (layC c).at_4 c.Pages w (hdI ((layC c).at_4 + 2 * c.Pages) q (cw (layC c) w p)) p) else (false, w)).2 = unl (layC c) ls w p q (cw (layC c) w p) := by unfold unl; split <;> rfl
    rw [e2]
    unfold grabT
    simp only [k2, rSize_eq]
end
end Go.Rx
end

section
namespace Go.Rx
open Go.Proofs
section
variable {c : yb} {w inn : List Int} {ls : Int → Int → List Int}
theorem rTaken_eq (h : RightC c) (v : VOK (layC c) w.length w) (i : Inv11 (layC c) w inn ls) (a : Int) :
    (∃ p q m j, Tk (layC c) w a p q m j ∧ ClsOK (layC c) w inn p q m ∧ y1d ⟨c⟩ a w = some (q, true)) ∨ ((∀ p q m j, ¬ Tk (layC c) w a p q m j) ∧ y1d ⟨c⟩ a w = some (0, false)) := by
  have g := v.lay.geo11
  have e0 : (layC c).c = c := rfl
  rw [e0] at g
  unfold y1d
  rw [rPlace_eq h, Option.bind_some]
  unfold lPlace
  by_cases hu : (layC c).at_10 ≤ a ∧ a < (layC c).at_11
  · rw [if_pos hu]
    simp only [Bool.not_true, cond_false]
    generalize hpd : (a - (layC c).at_10) / 32 = p
    have hp : 0 ≤ p ∧ p < c.Pages := by omega
    obtain ⟨⟨k1, k2, k3⟩, ⟨o1, o2, o3⟩, r1, r2, r3⟩ := rpage_at h v hp
    rw [k1, Option.bind_some, r1, cond_true, o1, r1, cond_true]
    have hkw : w.getD ((layC c).at_1 + p).toNat 0 = kw (layC c) w p := rfl
    rw [hkw]
    rcases i.pg p hp.1 hp.2 with f | ⟨q, m, f⟩
    · rw [f.kind, show IntKind.wrap .i64 (0 - 1) = -1 from rfl, rSize_eq, sizeC_no (by omega)]
      refine .inr ⟨fun p' c' m' j t => ?_, rfl⟩
      have := t.page; have := t.kind; have := t.cls
      rw [hpd] at *
      subst p'
      have := f.kind
      omega
    · have hc := f.cls
      obtain ⟨z1, z2, z3⟩ := sizeC_in hc
      obtain ⟨s1, s2, s3⟩ := slots_pow hc
      rw [f.kind, wrap_id (by omega) (by omega), show q + 1 - 1 = q by omega, rSize_eq, Option.bind_some, beq_eq_false_iff_ne.2 (show sizeC q ≠ 0 by omega)]
      simp only [Bool.not_false, cond_true, cond_false]
      have hx : 0 ≤ (a - (layC c).at_10) % 32 ∧ (a - (layC c).at_10) % 32 < 32 := by omega
      have same : ∀ p' c' m' j, Tk (layC c) w a p' c' m' j → p' = p ∧ c' = q ∧ m' = m := by
        intro p' c' m' j t
        have e1 : p' = p := t.page.trans hpd
        subst e1
        have := t.kind; have := f.kind
        have e3 : (m' : Int) = m := t.bits.symm.trans f.bits
        exact ⟨rfl, by omega, by omega⟩
      rw [Int.tmod_eq_emod_of_nonneg hx.1, Int.tdiv_eq_ediv_of_nonneg hx.1]
      by_cases hm : (a - (layC c).at_10) % 32 % sizeC q = 0
      · have hj : 0 ≤ (a - (layC c).at_10) % 32 / sizeC q ∧ (a - (layC c).at_10) % 32 / sizeC q < 32 := by
          have e : q = 0 ∨ q = 1 ∨ q = 2 ∨ q = 3 ∨ q = 4 := by omega
          rcases e with rfl | rfl | rfl | rfl | rfl <;> simp [sizeC] <;> omega
        have hbw : w.getD ((layC c).at_3 + p).toNat 0 = (m : Int) := f.bits
        rw [hm, show ((0 : Int) != 0) = false from rfl, cond_false, k3, Option.bind_some, r3, cond_true, o3, r3, cond_true, hbw, wrap_id (by omega) (by omega), rHas_eq (bits_lt f.lt s1), Option.bind_some]
        have hb : bitI m ((a - (layC c).at_10) % 32 / sizeC q) = m.testBit ((a - (layC c).at_10) % 32 / sizeC q).toNat := by unfold bitI; rw [decide_eq_true hj]; rfl
        rw [hb]
        cases ht : m.testBit ((a - (layC c).at_10) % 32 / sizeC q).toNat with
        | true => exact .inl ⟨p, q, m, _, ⟨hu, hpd.symm, hc, f.kind, f.bits, hm, rfl, ht⟩, f, rfl⟩
        | false =>
          refine .inr ⟨fun p' c' m' j t => ?_, rfl⟩
          obtain ⟨rfl, rfl, rfl⟩ := same p' c' m' j t
          have := t.is
          rw [t.num, ht] at this
          cases this
      · rw [bne_iff_ne.2 hm]
        refine .inr ⟨fun p' c' m' j t => ?_, rfl⟩
        obtain ⟨rfl, rfl, rfl⟩ := same p' c' m' j t
        exact hm t.mul
  · rw [if_neg hu]
    exact .inr ⟨fun p c m j t => hu t.user, rfl⟩
theorem rRoom_eq (h : RightC c) (v : VOK (layC c) w.length w) (i : Inv11 (layC c) w inn ls) (q : Int) : y2v ⟨c⟩ q w = some (decide (0 ≤ firstF ls q 1 (slotsC q).toNat)) := by
  unfold y2v
  rw [rFirst_eq h v (ls := ls) (fun f k => i.rep.lst _ _ k), Option.bind_some]
theorem rFree_eq (h : RightC c) (v : VOK (layC c) w.length w) (i : Inv11 (layC c) w inn ls) (q : Int) : y3b ⟨c⟩ q w = some (freeN (layC c) w q c.Pages.toNat) := by
  have hpg := h.pages
  have e0 : (layC c).c = c := rfl
  have key : ∀ d k : Nat, c.Pages.toNat - k = d → (k : Int) ≤ c.Pages → y94 ⟨c⟩ q w (freeN (layC c) w q k, (k : Int)) = some (freeN (layC c) w q c.Pages.toNat) := by
    intro d
    induction d with
    | zero =>
      intro k hd hk
      have e : k = c.Pages.toNat := by omega
      subst e
      exact loopO_end (by simp only [y6s, decide_eq_false (show ¬ ((c.Pages.toNat : Int) < c.Pages) by omega), cond_false])
    | succ d ih =>
      intro k hd hk
      have hp : 0 ≤ (k : Int) ∧ (k : Int) < c.Pages := by omega
      have hb := freeN_le (layC c) w q k
      have hb1 := freeN_le (layC c) w q (k + 1)
      refine (loopO_go (s' := (freeN (layC c) w q (k + 1), ((k + 1 : Nat) : Int))) ?_).trans (ih (k + 1) (by omega) (by omega))
      obtain ⟨⟨k1, k2, k3⟩, ⟨o1, o2, o3⟩, r1, r2, r3⟩ := rpage_at h v hp
      simp only [y6s, decide_eq_true hp.2, cond_true]
      rw [wrap_id (x := (k : Int) + 1) (by omega) (by omega)]
      simp only [freeN]
      by_cases hc : 0 ≤ q ∧ q < 5
      · obtain ⟨z1, z2, z3⟩ := sizeC_in hc
        obtain ⟨s1, s2, s3⟩ := slots_pow hc
        have hkw : w.getD ((layC c).at_1 + (k : Int)).toNat 0 = kw (layC c) w k := rfl
        rw [decide_eq_true (show q ≥ 0 by omega), cond_true, decide_eq_true hc.2, cond_true, k1, Option.bind_some, r1, cond_true, o1, r1, cond_true, hkw, wrap_id (x := q + 1) (by omega) (by omega)]
        by_cases hk1 : kw (layC c) w k = q + 1
        · rw [beq_iff_eq.2 hk1, cond_true, if_pos ⟨hc, hk1⟩, rSlots3_eq, Option.bind_some, k3, Option.bind_some, r3, cond_true, o3, r3, cond_true, Option.bind_some]
          rcases i.pg k hp.1 hp.2 with f | ⟨c', m, f⟩
          · have := f.kind; omega
          · have e1 : c' = q := by have := f.kind; omega
            subst e1
            have hrd : w.getD ((layC c).at_3 + (k : Int)).toNat 0 = (m : Int) := f.bits
            have hbw : bw (layC c) w k = (m : Int) := f.bits
            have hpop := popN_le m (slotsC c').toNat
            rw [hrd, hbw, Int.toNat_natCast]
            have hcnt : y1r (m : Int) (slotsC c') = some (popN m (slotsC c').toNat : Int) := by
              have := rCount_is (bits_lt f.lt s1) s1
              rw [s3] at this
              exact this
            rw [hcnt, Option.bind_some, wrap_id (x := freeN (layC c) w c' k + slotsC c') (by omega) (by omega), wrap_id (by omega) (by omega)]
            have e2 : freeN (layC c) w c' k + slotsC c' - (popN m (slotsC c').toNat : Int) = freeN (layC c) w c' k + (slotsC c' - (popN m (slotsC c').toNat : Int)) := by omega
            rw [e2]
            rfl
        · rw [beq_eq_false_iff_ne.2 hk1, cond_false, if_neg (fun x => hk1 x.2), Int.add_zero]
          rfl
      · rw [if_neg (fun x => hc x.1), Int.add_zero]
        by_cases q0 : 0 ≤ q
        · rw [decide_eq_true (show q ≥ 0 from q0), cond_true, decide_eq_false (show ¬ q < 5 by omega), cond_false]
          rfl
        · rw [decide_eq_false (show ¬ q ≥ 0 from q0), cond_false]
          rfl
  exact key _ 0 rfl (by omega)
theorem setP_over {L : ya} (h : LayOK L) {w x : List Int} {p : Int} (hl : x.length = w.length) (hn : L.at_11 ≤ (w.length : Int)) (hp : 0 ≤ p ∧ p < L.c.Pages) (e : ∀ b, 0 ≤ b → b ≠ L.at_2 + p → b ≠ L.at_3 + p → wd x b = wd w b) :
    setP L.at_1 L.c.Pages x p 0 0 = setP L.at_1 L.c.Pages w p 0 0 := by
  have g := h.geo11
  refine wd_ext (by rw [setP_len, setP_len, hl]) (fun b hb => ?_)
  rw [setP_wd (GeoKL h (by rw [hl]; exact hn)) hp hb, setP_wd (GeoKL h hn) hp hb]
  split
  · rfl
  · split
    · rfl
    · split
      · rfl
      · exact e b hb (by omega) (by omega)
theorem rReturn_eq (h : RightC c) (v : VOK (layC c) w.length w) (i : Inv11 (layC c) w inn ls) (a : Int) : ∃ b x, y2u ⟨c⟩ a w = some (b, x) ∧ RetS (layC c) ls w a b x := by
  have g := v.lay.geo11
  have e0 : (layC c).c = c := rfl
  rw [e0] at g
  have hpg := h.pages
  unfold y2u
  rcases rTaken_eq h v i a with ⟨p, q, m, j, t, f, e⟩ | ⟨h1, e⟩
  rotate_left
  · rw [e, Option.bind_some]
    exact ⟨_, _, rfl, .no h1⟩
  rw [e, Option.bind_some]
  simp only [Bool.not_true, cond_false]
  obtain ⟨hp, hj, ha⟩ := t.more v.lay
  have hpc : 0 ≤ p ∧ p < c.Pages := hp
  obtain ⟨s1, s2, s3⟩ := slots_pow f.cls
  obtain ⟨z1, z2, z3⟩ := sizeC_in f.cls
  have hpop := popN_le m (slotsC q).toNat
  have hleft := f.left; have hused := f.used
  have hn : (layC c).at_11 ≤ (w.length : Int) := v.all
  obtain ⟨ls', r1', hlen, hoff⟩ := cls_rep v.lay hn i.rep hp f
  obtain ⟨⟨k1, k2, k3⟩, ⟨o1, o2, o3⟩, r1, r2, r3⟩ := rpage_at h v hpc
  have epl : lPlace (layC c) a = (p, (a - (layC c).at_10) % 32, true) := by
    unfold lPlace
    rw [if_pos t.user, t.page]
  have eg : w.getD ((layC c).at_2 + p).toNat 0 = cw (layC c) w p := rfl
  rw [rPlace_eq h, epl, Option.bind_some]
  simp only
  rw [k2, Option.bind_some, r2, cond_true, o2, r2, cond_true, eg, rUnlink_eq h v (xs := ls q (cw (layC c) w p)) (fun k => i.rep.lst _ _ k), Option.bind_some]
  have e2 : (if isL q (cw (layC c) w p) ∧ p ∈ ls q (cw (layC c) w p) then (true, unlinkW (layC c).at_4 c.Pages w (hdI ((layC c).at_4 + 2 * c.Pages) q (cw (layC c) w p)) p) else (false, w)).2 = unl (layC c) ls w p q (cw (layC c) w p) := by unfold unl; split <;> rfl
  rw [e2]
  have hRet := RetS.yes (ls := ls) t
  have hinn : (inn.length : Int) = c.Pages := i.rep.len
  have hz1 : wd (inn.set p.toNat 0) p = 0 := by rw [wd_set (by omega) hp.1, if_pos rfl]
  generalize hcn : cw (layC c) w p = n at *
  have r2u : (unl (layC c) ls w p q n).length = w.length := hlen
  have ecw : cw (layC c) (unl (layC c) ls w p q n) p = n := (hoff _ (by omega) (.inl (by omega))).trans hcn
  have ebw : (unl (layC c) ls w p q n).getD ((layC c).at_3 + p).toNat 0 = (m : Int) := (hoff _ (by omega) (.inl (by omega))).trans f.bits
  have ekw : kw (layC c) (unl (layC c) ls w p q n) p = q + 1 := (hoff _ (by omega) (.inl (by omega))).trans t.kind
  generalize unl (layC c) ls w p q n = x at *
  have w1 : ∀ b, 0 ≤ b → wd (x.set ((layC c).at_3 + p).toNat ((m - 2 ^ j.toNat : Nat) : Int)) b = if b = (layC c).at_3 + p then ((m - 2 ^ j.toNat : Nat) : Int) else wd x b := fun b hb => wd_set (by omega) hb
  have g2 : (x.set ((layC c).at_3 + p).toNat ((m - 2 ^ j.toNat : Nat) : Int)).getD ((layC c).at_2 + p).toNat 0 = n := by
    refine (w1 _ (by omega)).trans ?_
    rw [if_neg (by omega)]; exact ecw
  have w2 : ∀ b, 0 ≤ b → wd ((x.set ((layC c).at_3 + p).toNat ((m - 2 ^ j.toNat : Nat) : Int)).set ((layC c).at_2 + p).toNat (n + 1)) b = if b = (layC c).at_2 + p then n + 1 else if b = (layC c).at_3 + p then ((m - 2 ^ j.toNat : Nat) : Int) else wd x b := fun b hb => by
    rw [wd_set (by rw [List.length_set]; omega) hb, w1 b hb]
  have g4 : ((x.set ((layC c).at_3 + p).toNat ((m - 2 ^ j.toNat : Nat) : Int)).set ((layC c).at_2 + p).toNat (n + 1)).getD ((layC c).at_2 + p).toNat 0 = n + 1 := by
    refine (w2 _ (by omega)).trans ?_
    rw [if_pos rfl]
  have vy : VOK (layC c) ((x.set ((layC c).at_3 + p).toNat ((m - 2 ^ j.toNat : Nat) : Int)).set ((layC c).at_2 + p).toNat (n + 1)).length ((x.set ((layC c).at_3 + p).toNat ((m - 2 ^ j.toNat : Nat) : Int)).set ((layC c).at_2 + p).toNat (n + 1)) := ⟨v.lay, rfl, by simpa [hlen] using v.all⟩
  have ry : RepW (layC c).at_4 c.Pages ((x.set ((layC c).at_3 + p).toNat ((m - 2 ^ j.toNat : Nat) : Int)).set ((layC c).at_2 + p).toNat (n + 1)) (inn.set p.toNat 0) ls' := r1'.congr (by omega) (by rw [e0]; omega) (fun b h0 h1 => by rw [e0] at h1; rw [w2 b (by omega), if_neg (by omega), if_neg (by omega)])
  have hky : kw (layC c) ((x.set ((layC c).at_3 + p).toNat ((m - 2 ^ j.toNat : Nat) : Int)).set ((layC c).at_2 + p).toNat (n + 1)) p = q + 1 := by
    refine (w2 _ (by omega)).trans ?_
    rw [if_neg (by omega), if_neg (by omega)]; exact ekw
  have enum : (a - (layC c).at_10) % 32 / sizeC q = j := t.num.symm
  have hne : (!sizeC q == 0) = true := by rw [beq_eq_false_iff_ne.2 (show sizeC q ≠ 0 by omega)]; rfl
  have ew : IntKind.wrap IntKind.i64 (Int.tdiv ((a - (layC c).at_10) % 32) (sizeC q)) = j := by
    rw [Int.tdiv_eq_ediv_of_nonneg (by omega), enum, wrap_id (by omega) (by omega)]
  have ew2 : IntKind.wrap IntKind.i64 (n + 1) = n + 1 := wrap_id (by omega) (by omega)
  simp only [k2, k3, o2, o3, Option.bind_some, List.length_set, hlen, r2, r3, cond_true, rSize_eq, hne, ew, ebw, rClear_eq (bits_lt f.lt s1) (show 0 ≤ j ∧ j < 32 by omega) t.is, g2, ew2, g4, rSlots3_eq]
  unfold turnW at hRet
  by_cases hs : n + 1 = slotsC q
  · rw [if_pos hs] at hRet
    rw [beq_iff_eq.2 hs, cond_true]
    obtain ⟨k, y, d1, d2⟩ := r9Drop_eq h vy p
    rw [d1, Option.bind_some]
    have hkn := (knd_in (w := (x.set ((layC c).at_3 + p).toNat ((m - 2 ^ j.toNat : Nat) : Int)).set ((layC c).at_2 + p).toNat (n + 1)) (kb := (layC c).at_1) hpc).trans hky
    rcases d2 with ⟨_, _, d3, d4⟩ | ⟨d3, _⟩
    · have ed := drop_page v.lay (by simpa [hlen] using v.all) hp f.cls hky d3 d4
      have es := setP_over (w := x) (x := (x.set ((layC c).at_3 + p).toNat ((m - 2 ^ j.toNat : Nat) : Int)).set ((layC c).at_2 + p).toNat (n + 1)) v.lay (by simp only [List.length_set]) (by rw [hlen]; exact hn) hp (fun b h0 h1 h2 => by rw [w2 b h0, if_neg h1, if_neg h2])
      rw [ed.trans es]
      exact ⟨_, _, rfl, hRet⟩
    · exact absurd ⟨by rw [hkn]; have := f.cls; omega, by rw [hkn]; have := f.cls; omega⟩ d3
  · rw [if_neg hs] at hRet
    rw [beq_eq_false_iff_ne.2 hs, cond_false, rLink_eq h vy (xs := ls' q (n + 1)) (fun k => ry.lst _ _ k) (fun k _ _ hm => by
      have := ((ry.mem _ _ k p).1 hm).2
      have := k.1; have := k.2; omega), Option.bind_some]
    have hL : isL q (n + 1) := ⟨f.cls, by omega, by omega⟩
    rw [if_pos hL] at hRet
    rw [if_pos ⟨hL, hpc⟩]
    exact ⟨_, _, rfl, hRet⟩
end
end Go.Rx
end

section
namespace Go.Rx
variable {L : ya} {nw : Nat} {cur u inn : List Int} {ls : Int → Int → List Int}
theorem turn_words {w1 inn1 : List Int} {ls1 : Int → Int → List Int} {p c b n : Int} (h : LayOK L) (hn : L.at_11 ≤ (w1.length : Int)) (hp : 0 ≤ p ∧ p < L.c.Pages) (r1 : RepW L.at_4 L.c.Pages w1 inn1 ls1) (hz : wd inn1 p = 0) {x : Int} (h1 : L.at_1 ≤ x) (h2 : x < L.at_4) :
    wd (turnW L w1 p c b n) x = if n = slotsC c then (if x = L.at_1 + p ∨ x = L.at_2 + p ∨ x = L.at_3 + p then 0 else wd w1 x) else if x = L.at_2 + p then n else if x = L.at_3 + p then b else wd w1 x := by
  have g := h.geo11
  unfold turnW
  by_cases hs : n = slotsC c
  · rw [if_pos hs, if_pos hs, setP_wd (GeoKL h hn) hp (by omega)]
    repeat' split
    all_goals first | rfl | omega
  · rw [if_neg hs, if_neg hs]
    have hv : ∀ y, 0 ≤ y → wd ((w1.set (L.at_3 + p).toNat b).set (L.at_2 + p).toNat n) y = if y = L.at_2 + p then n else if y = L.at_3 + p then b else wd w1 y := fun y hy => by
      rw [wd_set (by rw [List.length_set]; omega) hy, wd_set (by omega) hy]
    by_cases hL : isL c n
    · rw [if_pos hL]
      have rv : RepW L.at_4 L.c.Pages ((w1.set (L.at_3 + p).toNat b).set (L.at_2 + p).toNat n) inn1 ls1 := r1.congr (by omega) (by omega) (fun y h0 h1 => by rw [hv y (by omega), if_neg (by omega), if_neg (by omega)])
      obtain ⟨_, _, _, a3⟩ := rv.linked (GeoL h (by simpa using hn)) hL hp hz
      rw [a3 x (by omega) (.inl h2), hv x (by omega)]
    · rw [if_neg hL, hv x (by omega)]
structure Got (L : ya) (w : List Int) (c a : Int) (x : List Int) (p i : Int) (m : Nat) : Prop where
  cls : 0 ≤ c ∧ c < 5
  page : 0 ≤ p ∧ p < L.c.Pages
  num : 0 ≤ i ∧ i < slotsC c
  addr : a = L.at_10 + p * 32 + i * sizeC c
  bit : m.testBit i.toNat = false
  lt : m < 2 ^ (slotsC c).toNat
  was : (kw L w p = c + 1 ∧ bw L w p = m ∧ cw L w p = slotsC c - popN m (slotsC c).toNat ∧ popN m (slotsC c).toNat ≠ 0) ∨ (kw L w p = 0 ∧ bw L w p = 0 ∧ cw L w p = 0 ∧ m = 0)
  kind : kw L x p = c + 1
  bits : bw L x p = ((m + 2 ^ i.toNat : Nat) : Int)
  left : cw L x p = slotsC c - popN m (slotsC c).toNat - 1
  other : ∀ q, 0 ≤ q → q < L.c.Pages → q ≠ p → kw L x q = kw L w q ∧ cw L x q = cw L w q ∧ bw L x q = bw L w q
theorem got_of {w x : List Int} {c a : Int} (h : LayOK L) (hn : L.at_11 ≤ (w.length : Int)) (i : Inv11 L w inn ls) (s : GrabS L ls w c a true x) : ∃ p j m, Got L w c a x p j m := by
  have g := h.geo11
  have hpg := h.pages
  have hil : (inn.length : Int) = L.c.Pages := i.rep.len
  cases s with
  | @old p m j hc hp hf hb hj h0 =>
    rcases first_cls i hc hf with ⟨e, _⟩ | ⟨hp, ⟨m', f⟩, h1, _, _⟩
    · omega
    · have e : m' = m := by have := f.bits; omega
      subst e
      obtain ⟨s1, s2, s3⟩ := slots_pow hc
      have hlf := f.left; have hu := f.used
      obtain ⟨_, j2, j3⟩ := isFirst_ge hj (by omega)
      obtain ⟨ls', r1, hlen, hoff⟩ := cls_rep h hn i.rep hp f
      have hw : ∀ y, L.at_1 ≤ y → y < L.at_4 → wd (turnW L (unl L ls w p c (cw L w p)) p c ((m' + 2 ^ j.toNat : Nat) : Int) (cw L w p - 1)) y = if y = L.at_2 + p then cw L w p - 1 else if y = L.at_3 + p then ((m' + 2 ^ j.toNat : Nat) : Int) else wd w y := fun y h1 h2 => by
        rw [turn_words h (by rw [hlen]; exact hn) hp r1 (by rw [wd_set (by omega) hp.1, if_pos rfl]) h1 h2, if_neg (by omega), hoff y (by omega) (.inl h2)]
      generalize turnW L (unl L ls w p c (cw L w p)) p c ((m' + 2 ^ j.toNat : Nat) : Int) (cw L w p - 1) = X at *
      refine ⟨p, j, m', hc, hp, ⟨h0, by omega⟩, rfl, j3, f.lt, .inl ⟨f.kind, f.bits, hlf, by omega⟩, ?_, ?_, ?_, fun q q0 q1 hq => ⟨?_, ?_, ?_⟩⟩
      · unfold kw; rw [hw _ (by omega) (by omega), if_neg (by omega), if_neg (by omega)]; exact f.kind
      · unfold bw; rw [hw _ (by omega) (by omega), if_neg (by omega), if_pos rfl]
      · show wd X (L.at_2 + p) = _
        rw [hw _ (by omega) (by omega), if_pos rfl]
        omega
      · unfold kw; rw [hw _ (by omega) (by omega), if_neg (by omega), if_neg (by omega)]
      · show wd X (L.at_2 + q) = wd w (L.at_2 + q)
        rw [hw _ (by omega) (by omega), if_neg (by omega), if_neg (by omega)]
      · unfold bw; rw [hw _ (by omega) (by omega), if_neg (by omega), if_neg (by omega)]
  | @new p u hc hf hr hp ht =>
    rcases find_free hr with ⟨e, _⟩ | ⟨hp, hk⟩
    · omega
    · obtain ⟨hl, hv⟩ := new_page h hn hp hc ht
      obtain ⟨s1, s2, s3⟩ := slots_pow hc
      have f : FreeOK L w inn p := by
        rcases i.pg p hp.1 hp.2 with f | ⟨c', m, f⟩
        · exact f
        · have := f.kind; have := f.cls; omega
      generalize hvv : u.set (L.at_2 + p).toNat (slotsC c) = v at *
      have hvl : v.length = w.length := by rw [← hvv, List.length_set, hl]
      have rv : RepW L.at_4 L.c.Pages v inn ls := i.rep.congr (by omega) (by omega) (fun b h0 h1 => by rw [hv b (by omega), if_neg (by omega), if_neg (by omega), if_neg (by omega)])
      have hw : ∀ y, L.at_1 ≤ y → y < L.at_4 → wd (turnW L v p c 1 (slotsC c - 1)) y = if y = L.at_2 + p then slotsC c - 1 else if y = L.at_3 + p then 1 else if y = L.at_1 + p then c + 1 else wd w y := fun y h1 h2 => by
        rw [turn_words h (by rw [hvl]; exact hn) hp rv f.linked h1 h2, if_neg (by omega), hv y (by omega)]
        repeat' split
        all_goals first | rfl | omega
      have hz := popN_zero (slotsC c).toNat
      refine ⟨p, 0, 0, hc, hp, ⟨by omega, by omega⟩, by omega, by simp, Nat.two_pow_pos _, .inr ⟨hk, f.bits, f.left, rfl⟩, ?_, ?_, ?_, fun q q0 q1 hq => ⟨?_, ?_, ?_⟩⟩
      · unfold kw; rw [hw _ (by omega) (by omega), if_neg (by omega), if_neg (by omega), if_pos rfl]
      · unfold bw; rw [hw _ (by omega) (by omega), if_neg (by omega), if_pos rfl]; rfl
      · unfold cw; rw [hw _ (by omega) (by omega), if_pos rfl]; omega
      · unfold kw; rw [hw _ (by omega) (by omega), if_neg (by omega), if_neg (by omega), if_neg (by omega)]
      · unfold cw; rw [hw _ (by omega) (by omega), if_neg (by omega), if_neg (by omega), if_neg (by omega)]
      · unfold bw; rw [hw _ (by omega) (by omega), if_neg (by omega), if_neg (by omega), if_neg (by omega)]
theorem Got.tk {w x : List Int} {c a p i : Int} {m : Nat} (h : LayOK L) (t : Got L w c a x p i m) : Tk L x a p c (m + 2 ^ i.toNat) i := by
  have g := h.geo11
  have hc := t.cls; have hp := t.page; have hi := t.num
  have hm := mul_size hc hi
  have hsz := sizeC_in hc
  have ha := t.addr
  refine ⟨by omega, by omega, hc, t.kind, t.bits, ?_, ?_, ?_⟩
  · rw [show (a - L.at_10) % 32 = i * sizeC c by omega]
    exact Int.mul_emod_left _ _
  · rw [show (a - L.at_10) % 32 = i * sizeC c by omega, Int.mul_ediv_cancel _ (by omega)]
  · rw [add_bit t.bit]; simp
theorem Got.back {w x y inn' : List Int} {ls' : Int → Int → List Int} {c a p i : Int} {m : Nat} {b : Bool} (h : LayOK L) (hn : L.at_11 ≤ (x.length : Int)) (t : Got L w c a x p i m) (i' : Inv11 L x inn' ls') (s : RetS L ls' x a b y) :
    b = true ∧ (∀ q, 0 ≤ q → q < L.c.Pages → kw L y q = kw L w q ∧ cw L y q = cw L w q ∧ bw L y q = bw L w q) ∧ ∀ p c m j, ¬ Tk L y a p c m j := by
  have g := h.geo11
  have hpg := h.pages
  have tk := t.tk h
  have hc := t.cls; have hp := t.page; have hi := t.num
  obtain ⟨s1, s2, s3⟩ := slots_pow hc
  have ey : b = true ∧ y = turnW L (unl L ls' x p c (cw L x p)) p c (m : Int) (cw L x p + 1) := by
    have hy := RetS.yes (ls := ls') tk
    rw [show m + 2 ^ i.toNat - 2 ^ i.toNat = m by omega] at hy
    exact s.uniq hy
  obtain ⟨rfl, ey⟩ := ey
  have hlf := t.left
  have hpl := popN_lt (m := m) (k := (slotsC c).toNat) (i := i.toNat) (by omega) t.bit
  have f : ClsOK L x inn' p c (m + 2 ^ i.toNat) := by
    rcases i'.pg p hp.1 hp.2 with f | ⟨c', m', f⟩
    · have := f.kind; have := t.kind; omega
    · have e1 : c' = c := by have := f.kind; have := t.kind; omega
      subst e1
      have e2 : m' = m + 2 ^ i.toNat := by have := f.bits; have := t.bits; omega
      subst e2
      exact f
  obtain ⟨ls2, r1, hlen, hoff⟩ := cls_rep h hn i'.rep hp f
  have hil : (inn'.length : Int) = L.c.Pages := i'.rep.len
  have hw : ∀ z, L.at_1 ≤ z → z < L.at_4 → wd y z = if cw L x p + 1 = slotsC c then (if z = L.at_1 + p ∨ z = L.at_2 + p ∨ z = L.at_3 + p then 0 else wd x z) else if z = L.at_2 + p then cw L x p + 1 else if z = L.at_3 + p then (m : Int) else wd x z := fun z h1 h2 => by
    rw [ey, turn_words h (by rw [hlen]; exact hn) hp r1 (by rw [wd_set (by omega) hp.1, if_pos rfl]) h1 h2, hoff z (by omega) (.inl h2)]
  have all : ∀ q, 0 ≤ q → q < L.c.Pages → kw L y q = kw L w q ∧ cw L y q = cw L w q ∧ bw L y q = bw L w q := by
    intro q q0 q1
    by_cases e : q = p
    · subst e
      rcases t.was with ⟨w1, w2, w3, w4⟩ | ⟨w1, w2, w3, w4⟩
      · refine ⟨?_, ?_, ?_⟩
        · rw [w1]; unfold kw; rw [hw _ (by omega) (by omega), if_neg (by omega), if_neg (by omega), if_neg (by omega)]; exact t.kind
        · rw [w3]; show wd y (L.at_2 + q) = _; rw [hw _ (by omega) (by omega), if_neg (by omega), if_pos rfl]; omega
        · rw [w2]; unfold bw; rw [hw _ (by omega) (by omega), if_neg (by omega), if_neg (by omega), if_pos rfl]
      · have hz := popN_zero (slotsC c).toNat
        subst w4
        refine ⟨?_, ?_, ?_⟩
        · rw [w1]; unfold kw; rw [hw _ (by omega) (by omega), if_pos (by omega), if_pos (by omega)]
        · rw [w3]; show wd y (L.at_2 + q) = _; rw [hw _ (by omega) (by omega), if_pos (by omega), if_pos (by omega)]
        · rw [w2]; unfold bw; rw [hw _ (by omega) (by omega), if_pos (by omega), if_pos (by omega)]
    · obtain ⟨o1, o2, o3⟩ := t.other q q0 q1 e
      have hz : ∀ z, L.at_1 ≤ z → z < L.at_4 → z ≠ L.at_1 + p → z ≠ L.at_2 + p → z ≠ L.at_3 + p → wd y z = wd x z := fun z h1 h2 h3 h4 h5 => by
        rw [hw z h1 h2]
        repeat' split
        all_goals first | rfl | omega
      refine ⟨?_, ?_, ?_⟩
      · rw [← o1]; exact hz _ (by omega) (by omega) (by omega) (by omega) (by omega)
      · rw [← o2]; exact hz _ (by omega) (by omega) (by omega) (by omega) (by omega)
      · rw [← o3]; exact hz _ (by omega) (by omega) (by omega) (by omega) (by omega)
  refine ⟨rfl, all, fun p' c' m' j' t' => ?_⟩
  have e1 : p' = p := t'.page.trans tk.page.symm
  subst e1
  obtain ⟨a1, a2, a3⟩ := all p' hp.1 hp.2
  rcases t.was with ⟨w1, w2, _, _⟩ | ⟨w1, _, _, _⟩
  · have e2 : c' = c := by have := t'.kind; omega
    subst e2
    have e3 : m' = m := by have := t'.bits; omega
    subst e3
    have e4 : j' = i := t'.num.trans tk.num.symm
    subst e4
    have := t'.is
    rw [t.bit] at this
    cases this
  · have := t'.kind; have := t'.cls; omega
theorem Inv11.start (h : LayOK L) : Inv11 L (List.replicate L.at_11.toNat 0) (List.replicate L.c.Pages.toNat 0) (fun _ _ => []) := by
  have g := h.geo11
  have hz : ∀ (n : Nat) (b : Int), wd (List.replicate n 0) b = 0 := fun n b => by
    simp [wd, List.getD, List.getElem?_replicate]; split <;> rfl
  exact ⟨RepW.zero (GeoL h (by omega)), fun p _ _ => .inl ⟨hz _ _, hz _ _, hz _ _, hz _ _⟩⟩
end Go.Rx
end

noncomputable section
namespace Go.Rx
open Go.Proofs
set_option maxRecDepth 100000
set_option maxHeartbeats 4000000
abbrev Y71 := Bool → Option Int
def yca (m_ : Y71) (args : List V) (H : Heap) (K : V → Heap → Prop) : Prop :=
  aC args fun a0 r => aN r <| aBool a0 fun isv => aN H <| So (m_ isv) fun x => K (vi x) []
def yc7 (m_ : Y71) : Spec := ⟨yca m_, (true : Bool)⟩
abbrev Y37 := Nat → (List Int) → ya → yi → Int → Option (Int × Int × Int × Int × (List Int))
def ybe (m_ : Y37) (args : List V) (H : Heap) (K : V → Heap → Prop) : Prop :=
  aC args fun a0 r => aC r fun a1 r => aC r fun a2 r => aC r fun a3 r => aN r <| aPtr 0 a0 <| aAgg a1 fun c1 => yy c1 fun l2 => aAgg a2 fun c2 => y5v c2 fun a => aInt a3 fun atv => aC H fun b0 r => aC r fun b1 r => aN r <| bView 1 b0 fun ws cur xs => bRow 0 true b1 fun (l : List Int) => ws = l ∧ xs.length ≤ 2 ∧ So (m_ ws.length cur l2 a atv) fun x => K (.agg [vi x.1, vi x.2.1, vi x.2.2.1, vi x.2.2.2.1]) [.pk 0 [ws, x.2.2.2.2] xs [.row 1], .row 0 l true]
def yip (m_ : Y37) : Spec := ⟨ybe m_, (true : Bool)⟩
abbrev Y23 := T_assartref02_Layout → yi → Int → (List Int) → Option (Int × Int × Int × Int × (List Int))
def y9v (m_ : Y23) (args : List V) (H : Heap) (K : V → Heap → Prop) : Prop :=
  aC args fun a0 r => aC r fun a1 r => aC r fun a2 r => aC r fun a3 r => aN r <| aAgg a0 fun c0 => y0f c0 fun rv => aRow 0 a1 <| aAgg a2 fun c2 => y5v c2 fun a => aInt a3 fun atv => aC H fun b0 r => aN r <| bRow 0 false b0 fun (w : List Int) => So (m_ rv a atv w) fun x => K (.agg [vi x.1, vi x.2.1, vi x.2.2.1, vi x.2.2.2.1]) [.row 0 x.2.2.2.2 false]
def ye3 (m_ : Y23) : Spec := ⟨y9v m_, (⟨true, fun i => Nat.beq i 0⟩ : RO)⟩
abbrev Y61 := Int → yi → (List Int) → Option Int
def y9l (m_ : Y61) (args : List V) (H : Heap) (K : V → Heap → Prop) : Prop :=
  aC args fun a0 r => aC r fun a1 r => aC r fun a2 r => aN r <| aRow 0 a0 <| aInt a1 fun user => aAgg a2 fun c2 => y5v c2 fun a => aC H fun b0 r => aN r <| bRow 0 true b0 fun (b : List Int) => So (m_ user a b) fun x => K (vi x) [.row 0 b true]
def yeu (m_ : Y61) : Spec := ⟨y9l m_, (true : Bool)⟩
abbrev Y60 := Int → (List Int) → Option (List Int)
def ycm (m_ : Y60) (args : List V) (H : Heap) (K : V → Heap → Prop) : Prop :=
  aC args fun a0 r => aC r fun a1 r => aN r <| aRow 0 a0 <| aInt a1 fun a => aC H fun b0 r => aN r <| bRow 0 true b0 fun (b : List Int) => So (m_ a b) fun x => K (.row 1) [.row 0 b true, .row 0 x false]
def yh6 (m_ : Y60) : Spec := ⟨ycm m_, (true : Bool)⟩
def yf8  : Cfg := { cfgB with
  sigs := sigN }
def ygb (y0n : Y24) (yl : Y71) (y2w : Y20) (y1z : Y58) (y2z : Y32) (y0l : Y2) : Cfg := { cfgB with
  sigs := (sigC 25 (yd7 y0n) (sigC 41 (yc7 yl) (sigC 30 (yer y2w) (sigC 42 (yj8 y1z) (sigC 24 (yez y2z) (sigC 29 (yb8 y0l) sigN)))))),
  plan := fun r => match r with | 10 => some ([0, 1, 3, 4, 5, 6, 9, 10, 11, 12, 2, 7, 8, 13, 14, 15], 528) | _ => none,
  flag := fun d => Nat.beq d 8 }
def yf4 (y3a : Y39) (yl : Y71) (y2u : Y43) (y1d : Y30) (y2v : Y14) (y3b : Y9) : Cfg := { cfgB with
  sigs := (sigC 43 (yec y3a) (sigC 41 (yc7 yl) (sigC 44 (yjr y2u) (sigC 45 (y8p y1d) (sigC 46 (ydm y2v) (sigC 47 (yfh y3b) sigN)))))),
  plan := fun r => match r with | 10 => some ([0, 1, 3, 4, 5, 6, 9, 10, 11, 12, 2, 7, 8, 13, 14, 15], 528) | _ => none,
  flag := fun d => Nat.beq d 8 }
def yfy  : Cfg := { cfgB with
  sigs := sigN }
def y4h  : Cfg := { cfgB with
  sigs := sigN,
  keep := fun r => match r with | 3 => some [(0, some 0), (1, none), (5, some 0), (6, none)] | _ => none }
theorem ylc (isv : Bool) (K : V → Heap → Prop) : (exF yf8 Tryz.f41 [vb isv] [] K) = (
    br isv (K (vi 1) []) (K (vi 0) [])) := by kernel_rfl
theorem yq5 (y0n : Y24) (yl : Y71) (y2w : Y20) (y1z : Y58) (y2z : Y32) (y0l : Y2) (ws cur : List Int) (xs : List Value) (l2 : ya) (a : yi) (atv : Int) (K : V → Heap → Prop) : (exF (ygb y0n yl y2w y1z y2z y0l) Tryz.f12 [.ptr 0 0, .agg (yd l2), .agg (y67 a), vi atv] (hV ws cur xs) K) = (
    br (a.Kind == 0) (br (a.Kind == 0) ((ws = ws) ∧ ((xs.length ≤ 2) ∧ (So (y0n ws.length cur l2 a.C) (fun (y0 : Int × Bool × List Int) => (So (yl y0.2.1) (fun (y1 : Int) => (K (.agg [vi y0.1, vi y1, vi 0, vi 0]) (hV ws y0.2.2 xs)))))))) (br (a.Kind == 2) (br (a.Kind == 2) ((ws = ws) ∧ ((xs.length ≤ 2) ∧ (So (y2w ws.length cur l2 atv) (fun (y2 : Bool × List Int) => (So (yl y2.1) (fun (y3 : Int) => (K (.agg [vi y3, vi 0, vi 0, vi 0]) (hV ws y2.2 xs)))))))) ((ws = ws) ∧ ((xs.length ≤ 2) ∧ (So (y1z ws.length cur l2 atv) (fun (y4 : Int × Bool) => (So (yl y4.2) (fun (y5 : Int) => ((ws = ws) ∧ ((xs.length ≤ 2) ∧ (So (y2z ws.length cur l2 a.C) (fun (y6 : Bool) => (So (yl y6) (fun (y7 : Int) => ((ws = ws) ∧ ((xs.length ≤ 2) ∧ (So (y0l ws.length cur l2 a.C) (fun (y8 : Int) => (K (.agg [vi y4.1, vi y5, vi y7, vi y8]) (hV ws cur xs))))))))))))))))))) (br (a.Kind == 3) ((ws = ws) ∧ ((xs.length ≤ 2) ∧ (So (y2w ws.length cur l2 atv) (fun (y9 : Bool × List Int) => (So (yl y9.1) (fun (y10 : Int) => (K (.agg [vi y10, vi 0, vi 0, vi 0]) (hV ws y9.2 xs)))))))) ((ws = ws) ∧ ((xs.length ≤ 2) ∧ (So (y1z ws.length cur l2 atv) (fun (y11 : Int × Bool) => (So (yl y11.2) (fun (y12 : Int) => ((ws = ws) ∧ ((xs.length ≤ 2) ∧ (So (y2z ws.length cur l2 a.C) (fun (y13 : Bool) => (So (yl y13) (fun (y14 : Int) => ((ws = ws) ∧ ((xs.length ≤ 2) ∧ (So (y0l ws.length cur l2 a.C) (fun (y15 : Int) => (K (.agg [vi y11.1, vi y12, vi y14, vi y15]) (hV ws cur xs))))))))))))))))))))) (br (a.Kind == 1) ((ws = ws) ∧ ((xs.length ≤ 2) ∧ (So (y0n ws.length cur l2 a.C) (fun (y16 : Int × Bool × List Int) => (So (yl y16.2.1) (fun (y17 : Int) => (K (.agg [vi y16.1, vi y17, vi 0, vi 0]) (hV ws y16.2.2 xs)))))))) (br (a.Kind == 2) (br (a.Kind == 2) ((ws = ws) ∧ ((xs.length ≤ 2) ∧ (So (y2w ws.length cur l2 atv) (fun (y18 : Bool × List Int) => (So (yl y18.1) (fun (y19 : Int) => (K (.agg [vi y19, vi 0, vi 0, vi 0]) (hV ws y18.2 xs)))))))) ((ws = ws) ∧ ((xs.length ≤ 2) ∧ (So (y1z ws.length cur l2 atv) (fun (y20 : Int × Bool) => (So (yl y20.2) (fun (y21 : Int) => ((ws = ws) ∧ ((xs.length ≤ 2) ∧ (So (y2z ws.length cur l2 a.C) (fun (y22 : Bool) => (So (yl y22) (fun (y23 : Int) => ((ws = ws) ∧ ((xs.length ≤ 2) ∧ (So (y0l ws.length cur l2 a.C) (fun (y24 : Int) => (K (.agg [vi y20.1, vi y21, vi y23, vi y24]) (hV ws cur xs))))))))))))))))))) (br (a.Kind == 3) ((ws = ws) ∧ ((xs.length ≤ 2) ∧ (So (y2w ws.length cur l2 atv) (fun (y25 : Bool × List Int) => (So (yl y25.1) (fun (y26 : Int) => (K (.agg [vi y26, vi 0, vi 0, vi 0]) (hV ws y25.2 xs)))))))) ((ws = ws) ∧ ((xs.length ≤ 2) ∧ (So (y1z ws.length cur l2 atv) (fun (y27 : Int × Bool) => (So (yl y27.2) (fun (y28 : Int) => ((ws = ws) ∧ ((xs.length ≤ 2) ∧ (So (y2z ws.length cur l2 a.C) (fun (y29 : Bool) => (So (yl y29) (fun (y30 : Int) => ((ws = ws) ∧ ((xs.length ≤ 2) ∧ (So (y0l ws.length cur l2 a.C) (fun (y31 : Int) => (K (.agg [vi y27.1, vi y28, vi y30, vi y31]) (hV ws cur xs)))))))))))))))))))))) := by kernel_rfl
theorem ynn (y3a : Y39) (yl : Y71) (y2u : Y43) (y1d : Y30) (y2v : Y14) (y3b : Y9) (rv : T_assartref02_Layout) (a : yi) (atv : Int) (w : List Int) (K : V → Heap → Prop) : (exF (yf4 y3a yl y2u y1d y2v y3b) Tryz.f13 [.agg (y0g rv), .row 0, .agg (y67 a), vi atv] [.row 0 w false] K) = (
    br (a.Kind == 0) (br (a.Kind == 0) (So (y3a rv a.C w) (fun (y0 : Int × Bool × List Int) => (So (yl y0.2.1) (fun (y1 : Int) => (K (.agg [vi y0.1, vi y1, vi 0, vi 0]) [.row 0 (y0.2.2 : List Int) false]))))) (br (a.Kind == 2) (br (a.Kind == 2) (So (y2u rv atv w) (fun (y2 : Bool × List Int) => (So (yl y2.1) (fun (y3 : Int) => (K (.agg [vi y3, vi 0, vi 0, vi 0]) [.row 0 (y2.2 : List Int) false]))))) (So (y1d rv atv w) (fun (y4 : Int × Bool) => (So (yl y4.2) (fun (y5 : Int) => (So (y2v rv a.C w) (fun (y6 : Bool) => (So (yl y6) (fun (y7 : Int) => (So (y3b rv a.C w) (fun (y8 : Int) => (K (.agg [vi y4.1, vi y5, vi y7, vi y8]) [.row 0 w false])))))))))))) (br (a.Kind == 3) (So (y2u rv atv w) (fun (y9 : Bool × List Int) => (So (yl y9.1) (fun (y10 : Int) => (K (.agg [vi y10, vi 0, vi 0, vi 0]) [.row 0 (y9.2 : List Int) false]))))) (So (y1d rv atv w) (fun (y11 : Int × Bool) => (So (yl y11.2) (fun (y12 : Int) => (So (y2v rv a.C w) (fun (y13 : Bool) => (So (yl y13) (fun (y14 : Int) => (So (y3b rv a.C w) (fun (y15 : Int) => (K (.agg [vi y11.1, vi y12, vi y14, vi y15]) [.row 0 w false])))))))))))))) (br (a.Kind == 1) (So (y3a rv a.C w) (fun (y16 : Int × Bool × List Int) => (So (yl y16.2.1) (fun (y17 : Int) => (K (.agg [vi y16.1, vi y17, vi 0, vi 0]) [.row 0 (y16.2.2 : List Int) false]))))) (br (a.Kind == 2) (br (a.Kind == 2) (So (y2u rv atv w) (fun (y18 : Bool × List Int) => (So (yl y18.1) (fun (y19 : Int) => (K (.agg [vi y19, vi 0, vi 0, vi 0]) [.row 0 (y18.2 : List Int) false]))))) (So (y1d rv atv w) (fun (y20 : Int × Bool) => (So (yl y20.2) (fun (y21 : Int) => (So (y2v rv a.C w) (fun (y22 : Bool) => (So (yl y22) (fun (y23 : Int) => (So (y3b rv a.C w) (fun (y24 : Int) => (K (.agg [vi y20.1, vi y21, vi y23, vi y24]) [.row 0 w false])))))))))))) (br (a.Kind == 3) (So (y2u rv atv w) (fun (y25 : Bool × List Int) => (So (yl y25.1) (fun (y26 : Int) => (K (.agg [vi y26, vi 0, vi 0, vi 0]) [.row 0 (y25.2 : List Int) false]))))) (So (y1d rv atv w) (fun (y27 : Int × Bool) => (So (yl y27.2) (fun (y28 : Int) => (So (y2v rv a.C w) (fun (y29 : Bool) => (So (yl y29) (fun (y30 : Int) => (So (y3b rv a.C w) (fun (y31 : Int) => (K (.agg [vi y27.1, vi y28, vi y30, vi y31]) [.row 0 w false]))))))))))))))) := by kernel_rfl
theorem yls (user : Int) (a : yi) (b : List Int) (K : V → Heap → Prop) : (exF yfy Tryz.f8 [.row 0, vi user, .agg (y67 a)] [.row 0 b true] K) = (
    br (a.Kind == 2) (br (decide ((↑b.length : Int) > 0)) (Req (!IntKind.u64.wrap (↑b.length : Int) == 0) (Req (inR (IntKind.i64.wrap (Int.tmod (IntKind.u64.wrap a.N) (IntKind.u64.wrap (↑b.length : Int)))) b.length) (Req (inR (offs (IntKind.i64.wrap (Int.tmod (IntKind.u64.wrap a.N) (IntKind.u64.wrap (↑b.length : Int)))) 0) b.length) (K (vi (b.getD (Int.toNat (offs (IntKind.i64.wrap (Int.tmod (IntKind.u64.wrap a.N) (IntKind.u64.wrap (↑b.length : Int)))) 0)) 0)) [.row 0 b true])))) (K (vi (IntKind.i64.wrap (user + IntKind.i64.wrap (Int.tmod (IntKind.u64.wrap a.N) 1024)))) [.row 0 b true])) (K (vi (IntKind.i64.wrap (user + IntKind.i64.wrap (Int.tmod (IntKind.u64.wrap a.N) 1024)))) [.row 0 b true])) := by kernel_rfl
theorem yl8 (a : Int) (b : List Int) (iv : Int) (w : List Int) (K : V → Heap → Prop) (J1 : Env → Heap → Prop) : (ex y4h (⟨27, 1⟩ : Cx) (at_ (bodyOf Tryz.f15) [1, 1, 0, 1, 0, 0]) (mkEnv [(0, .row 0), (1, vi a), (5, .row 1), (6, vi iv)]) [.row 0 b true, .row 0 w false] (roundK y4h (⟨27, 1⟩ : Cx) (at_ (bodyOf Tryz.f15) [1, 1, 0, 1, 0, 0]) (contK y4h (⟨27, 1⟩ : Cx) (bodyOf Tryz.f15) [1, 1, 0, 1, 0] (retK y4h Tryz.f15 1 K)) J1)) = (
    br (decide (iv < (↑b.length : Int))) (Req (inR iv b.length) (Req (inR (offs iv 0) b.length) (br (b.getD (offs iv 0).toNat 0 != a) (Req (inR iv b.length) (Req (inR (offs iv 0) b.length) (Req (decide (w.length + 1 ≤ 1048576)) (J1 (mkEnv [(0, .row 0), (1, vi a), (5, .row 1), (6, vi (IntKind.i64.wrap (iv + 1)))]) [.row 0 b true, .row 0 (w ++ [b.getD (offs iv 0).toNat 0] : List Int) false])))) (J1 (mkEnv [(0, .row 0), (1, vi a), (5, .row 1), (6, vi (IntKind.i64.wrap (iv + 1)))]) [.row 0 b true, .row 0 w false])))) (K (.row 1) [.row 0 b true, .row 0 w false])) := by kernel_rfl
theorem yn1 (a : Int) (b : List Int) (K : V → Heap → Prop) : (exF y4h Tryz.f15 [.row 0, vi a] [.row 0 b true] K) = (
    Loop y4h (⟨27, 1⟩ : Cx) (at_ (bodyOf Tryz.f15) [1, 1, 0, 1, 0, 0]) (mkEnv [(0, .row 0), (1, vi a), (5, .row 1), (6, vi 0)]) [.row 0 b true, .row 0 ([] : List Int) false] (contK y4h (⟨27, 1⟩ : Cx) (bodyOf Tryz.f15) [1, 1, 0, 1, 0] (retK y4h Tryz.f15 1 K))) := by kernel_rfl
def yl (isv : Bool) : Option Int :=
  (bif isv then some 1 else some 0)
def y3u (nw : Nat) (cur : List Int) (l2 : ya) (a : yi) (atv : Int) : Option (Int × Int × Int × Int × (List Int)) :=
  (bif (a.Kind == 0) then (bif (a.Kind == 0) then ((y0n nw cur l2 a.C).bind fun y0 => ((yl y0.2.1).bind fun y1 => some (y0.1, y1, 0, 0, y0.2.2))) else (bif (a.Kind == 2) then (bif (a.Kind == 2) then ((y2w nw cur l2 atv).bind fun y2 => ((yl y2.1).bind fun y3 => some (y3, 0, 0, 0, y2.2))) else ((y1z nw cur l2 atv).bind fun y4 => ((yl y4.2).bind fun y5 => ((y2z nw cur l2 a.C).bind fun y6 => ((yl y6).bind fun y7 => ((y0l nw cur l2 a.C).bind fun y8 => some (y4.1, y5, y7, y8, cur))))))) else (bif (a.Kind == 3) then ((y2w nw cur l2 atv).bind fun y9 => ((yl y9.1).bind fun y10 => some (y10, 0, 0, 0, y9.2))) else ((y1z nw cur l2 atv).bind fun y11 => ((yl y11.2).bind fun y12 => ((y2z nw cur l2 a.C).bind fun y13 => ((yl y13).bind fun y14 => ((y0l nw cur l2 a.C).bind fun y15 => some (y11.1, y12, y14, y15, cur))))))))) else (bif (a.Kind == 1) then ((y0n nw cur l2 a.C).bind fun y16 => ((yl y16.2.1).bind fun y17 => some (y16.1, y17, 0, 0, y16.2.2))) else (bif (a.Kind == 2) then (bif (a.Kind == 2) then ((y2w nw cur l2 atv).bind fun y18 => ((yl y18.1).bind fun y19 => some (y19, 0, 0, 0, y18.2))) else ((y1z nw cur l2 atv).bind fun y20 => ((yl y20.2).bind fun y21 => ((y2z nw cur l2 a.C).bind fun y22 => ((yl y22).bind fun y23 => ((y0l nw cur l2 a.C).bind fun y24 => some (y20.1, y21, y23, y24, cur))))))) else (bif (a.Kind == 3) then ((y2w nw cur l2 atv).bind fun y25 => ((yl y25.1).bind fun y26 => some (y26, 0, 0, 0, y25.2))) else ((y1z nw cur l2 atv).bind fun y27 => ((yl y27.2).bind fun y28 => ((y2z nw cur l2 a.C).bind fun y29 => ((yl y29).bind fun y30 => ((y0l nw cur l2 a.C).bind fun y31 => some (y27.1, y28, y30, y31, cur))))))))))
def y1c (rv : T_assartref02_Layout) (a : yi) (atv : Int) (w : List Int) : Option (Int × Int × Int × Int × (List Int)) :=
  (bif (a.Kind == 0) then (bif (a.Kind == 0) then ((y3a rv a.C w).bind fun y0 => ((yl y0.2.1).bind fun y1 => some (y0.1, y1, 0, 0, y0.2.2))) else (bif (a.Kind == 2) then (bif (a.Kind == 2) then ((y2u rv atv w).bind fun y2 => ((yl y2.1).bind fun y3 => some (y3, 0, 0, 0, y2.2))) else ((y1d rv atv w).bind fun y4 => ((yl y4.2).bind fun y5 => ((y2v rv a.C w).bind fun y6 => ((yl y6).bind fun y7 => ((y3b rv a.C w).bind fun y8 => some (y4.1, y5, y7, y8, w))))))) else (bif (a.Kind == 3) then ((y2u rv atv w).bind fun y9 => ((yl y9.1).bind fun y10 => some (y10, 0, 0, 0, y9.2))) else ((y1d rv atv w).bind fun y11 => ((yl y11.2).bind fun y12 => ((y2v rv a.C w).bind fun y13 => ((yl y13).bind fun y14 => ((y3b rv a.C w).bind fun y15 => some (y11.1, y12, y14, y15, w))))))))) else (bif (a.Kind == 1) then ((y3a rv a.C w).bind fun y16 => ((yl y16.2.1).bind fun y17 => some (y16.1, y17, 0, 0, y16.2.2))) else (bif (a.Kind == 2) then (bif (a.Kind == 2) then ((y2u rv atv w).bind fun y18 => ((yl y18.1).bind fun y19 => some (y19, 0, 0, 0, y18.2))) else ((y1d rv atv w).bind fun y20 => ((yl y20.2).bind fun y21 => ((y2v rv a.C w).bind fun y22 => ((yl y22).bind fun y23 => ((y3b rv a.C w).bind fun y24 => some (y20.1, y21, y23, y24, w))))))) else (bif (a.Kind == 3) then ((y2u rv atv w).bind fun y25 => ((yl y25.1).bind fun y26 => some (y26, 0, 0, 0, y25.2))) else ((y1d rv atv w).bind fun y27 => ((yl y27.2).bind fun y28 => ((y2v rv a.C w).bind fun y29 => ((yl y29).bind fun y30 => ((y3b rv a.C w).bind fun y31 => some (y27.1, y28, y30, y31, w))))))))))
def y1k (user : Int) (a : yi) (b : List Int) : Option Int :=
  (bif (a.Kind == 2) then (bif (decide ((↑b.length : Int) > 0)) then (bif (!IntKind.u64.wrap (↑b.length : Int) == 0) then (bif (inR (IntKind.i64.wrap (Int.tmod (IntKind.u64.wrap a.N) (IntKind.u64.wrap (↑b.length : Int)))) b.length) then (bif (inR (offs (IntKind.i64.wrap (Int.tmod (IntKind.u64.wrap a.N) (IntKind.u64.wrap (↑b.length : Int)))) 0) b.length) then some (b.getD (Int.toNat (offs (IntKind.i64.wrap (Int.tmod (IntKind.u64.wrap a.N) (IntKind.u64.wrap (↑b.length : Int)))) 0)) 0) else none) else none) else none) else some (IntKind.i64.wrap (user + IntKind.i64.wrap (Int.tmod (IntKind.u64.wrap a.N) 1024)))) else some (IntKind.i64.wrap (user + IntKind.i64.wrap (Int.tmod (IntKind.u64.wrap a.N) 1024))))
def y6n (a : Int) (b : List Int) (iv : Int) (w : List Int) : Option ((Int × (List Int)) ⊕ (List Int)) :=
  (bif (decide (iv < (↑b.length : Int))) then (bif (inR iv b.length) then (bif (inR (offs iv 0) b.length) then (bif (b.getD (offs iv 0).toNat 0 != a) then (bif (inR iv b.length) then (bif (inR (offs iv 0) b.length) then (bif (decide (w.length + 1 ≤ 1048576)) then some (.inl ((IntKind.i64.wrap (iv + 1)), (w ++ [b.getD (offs iv 0).toNat 0]))) else none) else none) else none) else some (.inl ((IntKind.i64.wrap (iv + 1)), w))) else none) else none) else some (.inr w))
def ygk (a : Int) (b : List Int) (s : Int × (List Int)) : Option (List Int) :=
  loopO (fun s => y6n a b s.1 s.2) s
def y0i (a : Int) (b : List Int) : Option (List Int) :=
  (ygk a b (0, ([])))
attribute [local irreducible] Loop ex exF contK roundK retK at_ bodyOf mkEnv
theorem yg3 : SpecOK Tryz.prog elTT 41 (yc7 yl) := by
  refine spec_of_exF (cfg := yf8) (yg rfl rfl rfl) yh (fn := Tryz.f41) (by kernel_rfl) (by kernel_rfl) (by kernel_rfl) ?_
  intro args H K h
  change yca yl args H K at h
  unfold yca at h
  repeat first | (obtain ⟨_, h⟩ := h) | replace h := Des.el h
  subst_vars
  refine Eq.mpr (ylc _ K) ?_
  unfold yl at h
  revert h
  exact br_So (fun h => h) (fun h => h)
theorem yo8 : SpecOK Tryz.prog elTT 12 (yip y3u) := by
  refine spec_of_exF (cfg := (ygb y0n yl y2w y1z y2z y0l)) (yg rfl rfl rfl) (yc yh4 (yc yg3 (yc yo0 (yc ylx (yc yov (yc ygy yh)))))) (fn := Tryz.f12) (by kernel_rfl) (by kernel_rfl) (by kernel_rfl) ?_
  intro args H K h
  change ybe y3u args H K at h
  unfold ybe at h
  repeat first | (obtain ⟨_, h⟩ := h) | replace h := Des.el h
  subst_vars
  refine Eq.mpr (yq5 y0n yl y2w y1z y2z y0l _ _ _ _ _ _ K) ?_
  unfold y3u at h
  revert h
  exact br_So (br_So (andV (by assumption) (bind_So fun y0 => bind_So fun y1 => fun h => h)) (br_So (br_So (andV (by assumption) (bind_So fun y2 => bind_So fun y3 => fun h => h)) (andV (by assumption) (bind_So fun y4 => bind_So fun y5 => andV (by assumption) (bind_So fun y6 => bind_So fun y7 => andV (by assumption) (bind_So fun y8 => fun h => h))))) (br_So (andV (by assumption) (bind_So fun y9 => bind_So fun y10 => fun h => h)) (andV (by assumption) (bind_So fun y11 => bind_So fun y12 => andV (by assumption) (bind_So fun y13 => bind_So fun y14 => andV (by assumption) (bind_So fun y15 => fun h => h))))))) (br_So (andV (by assumption) (bind_So fun y16 => bind_So fun y17 => fun h => h)) (br_So (br_So (andV (by assumption) (bind_So fun y18 => bind_So fun y19 => fun h => h)) (andV (by assumption) (bind_So fun y20 => bind_So fun y21 => andV (by assumption) (bind_So fun y22 => bind_So fun y23 => andV (by assumption) (bind_So fun y24 => fun h => h))))) (br_So (andV (by assumption) (bind_So fun y25 => bind_So fun y26 => fun h => h)) (andV (by assumption) (bind_So fun y27 => bind_So fun y28 => andV (by assumption) (bind_So fun y29 => bind_So fun y30 => andV (by assumption) (bind_So fun y31 => fun h => h)))))))
theorem yqf : SpecOK Tryz.prog elTT 13 (ye3 y1c) := by
  refine spec_of_exF (cfg := (yf4 y3a yl y2u y1d y2v y3b)) (yg rfl rfl rfl) (yc yly (yc yg3 (yc ykf (yc yet (yc ypr (yc ymx yh)))))) (fn := Tryz.f13) (by kernel_rfl) (by kernel_rfl) (by kernel_rfl) ?_
  intro args H K h
  change y9v y1c args H K at h
  unfold y9v at h
  repeat first | (obtain ⟨_, h⟩ := h) | replace h := Des.el h
  subst_vars
  refine Eq.mpr (ynn y3a yl y2u y1d y2v y3b _ _ _ _ K) ?_
  unfold y1c at h
  revert h
  exact br_So (br_So (bind_So fun y0 => bind_So fun y1 => fun h => h) (br_So (br_So (bind_So fun y2 => bind_So fun y3 => fun h => h) (bind_So fun y4 => bind_So fun y5 => bind_So fun y6 => bind_So fun y7 => bind_So fun y8 => fun h => h)) (br_So (bind_So fun y9 => bind_So fun y10 => fun h => h) (bind_So fun y11 => bind_So fun y12 => bind_So fun y13 => bind_So fun y14 => bind_So fun y15 => fun h => h)))) (br_So (bind_So fun y16 => bind_So fun y17 => fun h => h) (br_So (br_So (bind_So fun y18 => bind_So fun y19 => fun h => h) (bind_So fun y20 => bind_So fun y21 => bind_So fun y22 => bind_So fun y23 => bind_So fun y24 => fun h => h)) (br_So (bind_So fun y25 => bind_So fun y26 => fun h => h) (bind_So fun y27 => bind_So fun y28 => bind_So fun y29 => bind_So fun y30 => bind_So fun y31 => fun h => h))))
theorem ykn : SpecOK Tryz.prog elTT 8 (yeu y1k) := by
  refine spec_of_exF (cfg := yfy) (yg rfl rfl rfl) yh (fn := Tryz.f8) (by kernel_rfl) (by kernel_rfl) (by kernel_rfl) ?_
  intro args H K h
  change y9l y1k args H K at h
  unfold y9l at h
  repeat first | (obtain ⟨_, h⟩ := h) | replace h := Des.el h
  subst_vars
  refine Eq.mpr (yls _ _ _ K) ?_
  unfold y1k at h
  revert h
  exact br_So (br_So (req_So (req_So (req_So (fun h => h)))) (fun h => h)) (fun h => h)
theorem lpok_law11_blocks_without_L1 (a : Int) (b : List Int) (iv : Int) (w : List Int) (K : V → Heap → Prop) : So (ygk a b (iv, w)) (fun (x : (List Int)) => K (.row 1) [.row 0 b true, .row 0 x false]) → Loop y4h (⟨27, 1⟩ : Cx) (at_ (bodyOf Tryz.f15) [1, 1, 0, 1, 0, 0]) (mkEnv [(0, .row 0), (1, vi a), (5, .row 1), (6, vi iv)]) [.row 0 b true, .row 0 w false] (contK y4h (⟨27, 1⟩ : Cx) (bodyOf Tryz.f15) [1, 1, 0, 1, 0] (retK y4h Tryz.f15 1 K)) := by
  refine loopK_So (fun (s_ : Int × (List Int)) => (mkEnv [(0, .row 0), (1, vi a), (5, .row 1), (6, vi s_.1)])) (fun (s_ : Int × (List Int)) => [.row 0 b true, .row 0 (s_.2 : List Int) false]) (fun (x : (List Int)) => K (.row 1) [.row 0 b true, .row 0 x false]) ?_ (iv, w)
  intro s_ J1 h
  clear iv
  clear w
  obtain ⟨iv, w⟩ := s_
  refine Eq.mpr (yl8 a b iv w K J1) ?_
  have h : So (y6n a b iv w) _ := h
  unfold y6n at h
  revert h
  exact br_So (req_So (req_So (br_So (req_So (req_So (req_So (fun h => h)))) (fun h => h)))) (fun h => h)
theorem ykh : SpecOK Tryz.prog elTT 15 (yh6 y0i) := by
  refine spec_of_exF (cfg := y4h) (yg rfl rfl rfl) yh (fn := Tryz.f15) (by kernel_rfl) (by kernel_rfl) (by kernel_rfl) ?_
  intro args H K h
  change ycm y0i args H K at h
  unfold ycm at h
  repeat first | (obtain ⟨_, h⟩ := h) | replace h := Des.el h
  subst_vars
  refine Eq.mpr (yn1 _ _ K) ?_
  unfold y0i at h
  revert h
  exact lpok_law11_blocks_without_L1 _ _ _ _ K
end Go.Rx
end

section
namespace Go.Rx
def nilRow (b tg : Nat) (H : Heap) : Option Heap := match H[b]? with
  | some (.cells U [.ext (.slice none 0 0)]) => some (H.set b (.cells U [.row H.length]) ++ [.row tg [] false])
  | _ => none
def nilRows : List (Nat × Nat) → Heap → Option Heap
  | [], H => some H
  | (b, tg) :: r, H => match nilRow b tg H with
    | some H' => nilRows r H'
    | none => none
def exN (cfg : Cfg) (cx : Cx) (nx : List (Nat × Nat)) : Code → Env → Heap → (Ex → Env → Heap → Prop) → Prop
  | .seq a b, env, H, K => ex cfg cx a env H fun e env H => match e with
    | .normal => match nilRows nx H with
      | some H' => ex cfg cx b env H' K
      | none => False
    | _ => False
  | _, _, _, _ => False
def exFN (cfg : Cfg) (nx : List (Nat × Nat)) (fn : Func) (args : List V) (H : Heap) (K : V → Heap → Prop) : Prop :=
  match fn.body with
  | some c => exN cfg (cxOf fn args H) nx c (argEnv args) H (retK cfg fn H.length K)
  | none => False
variable {cfg : Cfg} {cx : Cx} {ds : List Deferred} {ρ0 : List Value} {F0 : Nat → List Nat} {H0 : Heap} {w0 : World} {ρ : List Value} {F : Nat → List Nat} {H H' : Heap} {w : World}
end Go.Rx
end

noncomputable section
namespace Go.Rx
open Go.Proofs
set_option maxRecDepth 100000
set_option maxHeartbeats 4000000
def ybq (m_ : Nat → (List Int) → ya → Int → Int → Int → Int → Int → Int → (List (List Int)) → Option ((List Int) × Int × Int × Int × Int)) (args : List V) (H : Heap) (K : V → Heap → Prop) : Prop :=
  aC args fun a0 r => aC r fun a1 r => aC r fun a2 r => aC r fun a3 r => aC r fun a4 r => aC r fun a5 r => aN r <| aPtr 0 a0 <| aPtr 1 a1 <| aPtr 2 a2 <| aPtr 3 a3 <| aPtr 4 a4 <| aPtr 5 a5 <| aC H fun b0 r => aC r fun b1 r => aC r fun b2 r => aC r fun b3 r => aC r fun b4 r => aC r fun b5 r => aC r fun b6 r => aC r fun b7 r => aN r <| bView 6 b0 fun ws cur xs => bCells b1 fun U c1 => yy c1 fun l2 => bCells b2 fun U2 c2 => aC c2 fun d2_0 r => aRow 7 d2_0 <| aN r <| bCells b3 fun U3 c3 => aC c3 fun d3_0 r => aInt d3_0 fun iv => aN r <| bCells b4 fun U4 c4 => aC c4 fun d4_0 r => aInt d4_0 fun atv => aN r <| bCells b5 fun U5 c5 => aC c5 fun d5_0 r => aInt d5_0 fun x_0 => aC r fun d5_1 r => aInt d5_1 fun x_1 => aC r fun d5_2 r => aInt d5_2 fun x_2 => aC r fun d5_3 r => aInt d5_3 fun x_3 => aN r <| bRow 0 true b6 fun (l : List Int) => bRow 6 true b7 fun (acts : List (List Int)) => ws = l ∧ xs.length ≤ 2 ∧ So (m_ ws.length cur l2 iv atv x_0 x_1 x_2 x_3 acts) fun x => K (.tup []) [.pk 0 [ws, x.1] xs [.row 6], .cells U (yd l2), .cells U2 [.row 7], .cells U3 [vi iv], .cells U4 [vi atv], .cells U5 [vi x.2.1, vi x.2.2.1, vi x.2.2.2.1, vi x.2.2.2.2], .row 0 l true, .row 6 acts true]
def ycp (m_ : Nat → (List Int) → ya → Int → Int → Int → Int → Int → Int → (List (List Int)) → Option ((List Int) × Int × Int × Int × Int)) : Spec := ⟨ybq m_, (true : Bool)⟩
abbrev Y11 := Nat → (List Int) → ya → Int → Int → Int → Int → Option ((List Int) × Int × Int × Int × Int)
def ycr (m_ : Y11) (args : List V) (H : Heap) (K : V → Heap → Prop) : Prop :=
  aC args fun a0 r => aC r fun a1 r => aC r fun a2 r => aN r <| aPtr 0 a0 <| aPtr 1 a1 <| aPtr 2 a2 <| aC H fun b0 r => aC r fun b1 r => aC r fun b2 r => aC r fun b3 r => aN r <| bView 3 b0 fun ws cur xs => bCells b1 fun U c1 => yy c1 fun l2 => bCells b2 fun U2 c2 => aC c2 fun d2_0 r => aInt d2_0 fun a_0 => aC r fun d2_1 r => aInt d2_1 fun a_1 => aC r fun d2_2 r => aInt d2_2 fun a_2 => aC r fun d2_3 r => aInt d2_3 fun a_3 => aN r <| bRow 0 true b3 fun (l : List Int) => ws = l ∧ xs.length ≤ 2 ∧ So (m_ ws.length cur l2 a_0 a_1 a_2 a_3) fun x => K (.tup []) [.pk 0 [ws, x.1] xs [.row 3], .cells U (yd l2), .cells U2 [vi x.2.1, vi x.2.2.1, vi x.2.2.2.1, vi x.2.2.2.2], .row 0 l true]
def yc2 (m_ : Y11) : Spec := ⟨ycr m_, (true : Bool)⟩
def yhx (y3u : Y37) : Cfg := { cfgB with
  sigs := (sigC 12 (yip y3u) sigN),
  plan := fun r => match r with | 0 => some (List.range 9, 19791209299984) | _ => none }
def y50 (y0n : Y24) (y0l : Y2) : Cfg := { cfgB with
  sigs := (sigC 25 (yd7 y0n) (sigC 29 (yb8 y0l) sigN)),
  keep := fun r => match r with | 1 => some [(0, none), (1, none), (2, none), (4, none)] | _ => none }
theorem yn8 (y3u : Y37) (ws cur : List Int) (xs : List Value) (l2 : ya) (iv atv : Int) (x_0 x_1 : Int) (x_2 x_3 : Int) (acts : List (List Int)) (U U2 : TypeId) (U3 U4 U5 : TypeId) (K : V → Heap → Prop) : (exF (yhx y3u) Tryz.f11 [.ptr 0 0, .ptr 1 0, .ptr 2 0, .ptr 3 0, .ptr 4 0, .ptr 5 0] [.pk 0 [ws, cur] xs [.row 6], .cells U (yd l2), .cells U2 [.row 7], .cells U3 [vi iv], .cells U4 [vi atv], .cells U5 [vi x_0, vi x_1, vi x_2, vi x_3], .row 0 ws true, .row 6 acts true] K) = (
    Req (inR iv acts.length) (Req (inR (offs iv 0) acts.length) ((ws = ws) ∧ ((xs.length ≤ 2) ∧ (So (y3u ws.length cur l2 (yi.mk (List.getD (acts.getD (Int.toNat (offs iv (0 : Nat))) (List.replicate (3 : Nat) (0 : Int))) (0 : Nat) (0 : Int)) (List.getD (acts.getD (Int.toNat (offs iv (0 : Nat))) (List.replicate (3 : Nat) (0 : Int))) (1 : Nat) (0 : Int)) (List.getD (acts.getD (Int.toNat (offs iv (0 : Nat))) (List.replicate (3 : Nat) (0 : Int))) (2 : Nat) (0 : Int))) atv) (fun (y0 : Int × Int × Int × Int × List Int) => (K (.tup []) [.pk 0 [ws, y0.2.2.2.2] xs [.row 6], .cells U (yd l2), .cells U2 [.row 7], .cells U3 [vi iv], .cells U4 [vi atv], .cells U5 [vi y0.1, vi y0.2.1, vi y0.2.2.1, vi y0.2.2.2.1], .row 0 ws true, .row 6 acts true]))))))) := by kernel_rfl
theorem you (y0n : Y24) (y0l : Y2) (ws cur : List Int) (xs : List Value) (l2 : ya) (a_0 a_1 : Int) (a_2 a_3 : Int) (U U2 : TypeId) (iv : Int) (cur2 : List Int) (c c2 : Int) (c3 c4 : Int) (K : V → Heap → Prop) (J1 : Env → Heap → Prop) : (ex (y50 y0n y0l) (⟨21, 4⟩ : Cx) (at_ (bodyOf Tryz.f35) [0, 1, 0, 0]) (mkEnv [(0, .ptr 0 0), (1, .ptr 1 0), (2, .ptr 2 0), (4, vi iv)]) [.pk 0 [ws, cur2] xs [.row 3], .cells U (yd l2), .cells U2 [vi c, vi c2, vi c3, vi c4], .row 0 ws true] (roundK (y50 y0n y0l) (⟨21, 4⟩ : Cx) (at_ (bodyOf Tryz.f35) [0, 1, 0, 0]) (contK (y50 y0n y0l) (⟨21, 4⟩ : Cx) (bodyOf Tryz.f35) [0, 1, 0] (retK (y50 y0n y0l) Tryz.f35 4 K)) J1)) = (
    br (decide (iv < 3)) ((ws = ws) ∧ ((xs.length ≤ 2) ∧ (So (y0n ws.length cur2 l2 4) (fun (y0 : Int × Bool × List Int) => (Req (inR iv 4) (br (iv == (↑0 : Int)) (J1 (mkEnv [(0, .ptr 0 0), (1, .ptr 1 0), (2, .ptr 2 0), (4, vi (IntKind.i64.wrap (iv + 1)))]) [.pk 0 [ws, y0.2.2] xs [.row 3], .cells U (yd l2), .cells U2 [vi y0.1, vi c2, vi c3, vi c4], .row 0 ws true]) (br (iv == (↑1 : Int)) (J1 (mkEnv [(0, .ptr 0 0), (1, .ptr 1 0), (2, .ptr 2 0), (4, vi (IntKind.i64.wrap (iv + 1)))]) [.pk 0 [ws, y0.2.2] xs [.row 3], .cells U (yd l2), .cells U2 [vi c, vi y0.1, vi c3, vi c4], .row 0 ws true]) (br (iv == (↑2 : Int)) (J1 (mkEnv [(0, .ptr 0 0), (1, .ptr 1 0), (2, .ptr 2 0), (4, vi (IntKind.i64.wrap (iv + 1)))]) [.pk 0 [ws, y0.2.2] xs [.row 3], .cells U (yd l2), .cells U2 [vi c, vi c2, vi y0.1, vi c4], .row 0 ws true]) (br (iv == (↑3 : Int)) (J1 (mkEnv [(0, .ptr 0 0), (1, .ptr 1 0), (2, .ptr 2 0), (4, vi (IntKind.i64.wrap (iv + 1)))]) [.pk 0 [ws, y0.2.2] xs [.row 3], .cells U (yd l2), .cells U2 [vi c, vi c2, vi c3, vi y0.1], .row 0 ws true]) True))))))))) ((ws = ws) ∧ ((xs.length ≤ 2) ∧ (So (y0l ws.length cur2 l2 4) (fun (y1 : Int) => (K (.tup []) [.pk 0 [ws, cur2] xs [.row 3], .cells U (yd l2), .cells U2 [vi c, vi c2, vi c3, vi y1], .row 0 ws true])))))) := by kernel_rfl
theorem yq1 (y0n : Y24) (y0l : Y2) (ws cur : List Int) (xs : List Value) (l2 : ya) (a_0 a_1 : Int) (a_2 a_3 : Int) (U U2 : TypeId) (K : V → Heap → Prop) : (exF (y50 y0n y0l) Tryz.f35 [.ptr 0 0, .ptr 1 0, .ptr 2 0] [.pk 0 [ws, cur] xs [.row 3], .cells U (yd l2), .cells U2 [vi a_0, vi a_1, vi a_2, vi a_3], .row 0 ws true] K) = (
    Loop (y50 y0n y0l) (⟨21, 4⟩ : Cx) (at_ (bodyOf Tryz.f35) [0, 1, 0, 0]) (mkEnv [(0, .ptr 0 0), (1, .ptr 1 0), (2, .ptr 2 0), (4, vi 0)]) [.pk 0 [ws, cur] xs [.row 3], .cells U (yd l2), .cells U2 [vi a_0, vi a_1, vi a_2, vi a_3], .row 0 ws true] (contK (y50 y0n y0l) (⟨21, 4⟩ : Cx) (bodyOf Tryz.f35) [0, 1, 0] (retK (y50 y0n y0l) Tryz.f35 4 K))) := by kernel_rfl
def y1m (nw : Nat) (cur : List Int) (l2 : ya) (iv atv : Int) (x_0 x_1 : Int) (x_2 x_3 : Int) (acts : List (List Int)) : Option ((List Int) × Int × Int × Int × Int) :=
  (bif (inR iv acts.length) then (bif (inR (offs iv 0) acts.length) then ((y3u nw cur l2 (yi.mk (List.getD (acts.getD (Int.toNat (offs iv (0 : Nat))) (List.replicate (3 : Nat) (0 : Int))) (0 : Nat) (0 : Int)) (List.getD (acts.getD (Int.toNat (offs iv (0 : Nat))) (List.replicate (3 : Nat) (0 : Int))) (1 : Nat) (0 : Int)) (List.getD (acts.getD (Int.toNat (offs iv (0 : Nat))) (List.replicate (3 : Nat) (0 : Int))) (2 : Nat) (0 : Int))) atv).bind fun y0 => some (y0.2.2.2.2, y0.1, y0.2.1, y0.2.2.1, y0.2.2.2.1)) else none) else none)
def y58 (nw : Nat) (l2 : ya) (iv : Int) (cur2 : List Int) (c c2 : Int) (c3 c4 : Int) : Option ((Int × (List Int) × Int × Int × Int × Int) ⊕ ((List Int) × Int × Int × Int × Int)) :=
  (bif (decide (iv < 3)) then ((y0n nw cur2 l2 4).bind fun y0 => (bif (inR iv 4) then (bif (iv == (↑0 : Int)) then some (.inl ((IntKind.i64.wrap (iv + 1)), y0.2.2, y0.1, c2, c3, c4)) else (bif (iv == (↑1 : Int)) then some (.inl ((IntKind.i64.wrap (iv + 1)), y0.2.2, c, y0.1, c3, c4)) else (bif (iv == (↑2 : Int)) then some (.inl ((IntKind.i64.wrap (iv + 1)), y0.2.2, c, c2, y0.1, c4)) else (bif (iv == (↑3 : Int)) then some (.inl ((IntKind.i64.wrap (iv + 1)), y0.2.2, c, c2, c3, y0.1)) else none)))) else none)) else ((y0l nw cur2 l2 4).bind fun y1 => some (.inr (cur2, c, c2, c3, y1))))
def ydf (nw : Nat) (l2 : ya) (s : Int × (List Int) × Int × Int × Int × Int) : Option ((List Int) × Int × Int × Int × Int) :=
  loopO (fun s => y58 nw l2 s.1 s.2.1 s.2.2.1 s.2.2.2.1 s.2.2.2.2.1 s.2.2.2.2.2) s
def y48 (nw : Nat) (cur : List Int) (l2 : ya) (a_0 a_1 : Int) (a_2 a_3 : Int) : Option ((List Int) × Int × Int × Int × Int) :=
  (ydf nw l2 (0, cur, a_0, a_1, a_2, a_3))
attribute [local irreducible] Loop ex exF contK roundK retK at_ bodyOf mkEnv exFN
theorem ypa : SpecOK Tryz.prog elTT 11 (ycp y1m) := by
  refine spec_of_exF (cfg := (yhx y3u)) (yg rfl rfl rfl) (yc yo8 yh) (fn := Tryz.f11) (by kernel_rfl) (by kernel_rfl) (by kernel_rfl) ?_
  intro args H K h
  change ybq y1m args H K at h
  unfold ybq at h
  repeat first | (obtain ⟨_, h⟩ := h) | replace h := Des.el h
  subst_vars
  refine Eq.mpr (yn8 y3u _ _ _ _ _ _ _ _ _ _ _ _ _ _ _ _ K) ?_
  unfold y1m at h
  revert h
  exact req_So (req_So (andV (by assumption) (bind_So fun y0 => fun h => h)))
theorem lpok_law11_lives_1_L1 (ws cur : List Int) (xs : List Value) (l2 : ya) (a_0 a_1 : Int) (a_2 a_3 : Int) (U U2 : TypeId) (iv : Int) (cur2 : List Int) (c c2 : Int) (c3 c4 : Int) (K : V → Heap → Prop) (hx : xs.length ≤ 2) : So (ydf ws.length l2 (iv, cur2, c, c2, c3, c4)) (fun (x : (List Int) × Int × Int × Int × Int) => K (.tup []) [.pk 0 [ws, x.1] xs [.row 3], .cells U (yd l2), .cells U2 [vi x.2.1, vi x.2.2.1, vi x.2.2.2.1, vi x.2.2.2.2], .row 0 ws true]) → Loop (y50 y0n y0l) (⟨21, 4⟩ : Cx) (at_ (bodyOf Tryz.f35) [0, 1, 0, 0]) (mkEnv [(0, .ptr 0 0), (1, .ptr 1 0), (2, .ptr 2 0), (4, vi iv)]) [.pk 0 [ws, cur2] xs [.row 3], .cells U (yd l2), .cells U2 [vi c, vi c2, vi c3, vi c4], .row 0 ws true] (contK (y50 y0n y0l) (⟨21, 4⟩ : Cx) (bodyOf Tryz.f35) [0, 1, 0] (retK (y50 y0n y0l) Tryz.f35 4 K)) := by
  refine loopK_So (fun (s_ : Int × (List Int) × Int × Int × Int × Int) => (mkEnv [(0, .ptr 0 0), (1, .ptr 1 0), (2, .ptr 2 0), (4, vi s_.1)])) (fun (s_ : Int × (List Int) × Int × Int × Int × Int) => [.pk 0 [ws, s_.2.1] xs [.row 3], .cells U (yd l2), .cells U2 [vi s_.2.2.1, vi s_.2.2.2.1, vi s_.2.2.2.2.1, vi s_.2.2.2.2.2], .row 0 ws true]) (fun (x : (List Int) × Int × Int × Int × Int) => K (.tup []) [.pk 0 [ws, x.1] xs [.row 3], .cells U (yd l2), .cells U2 [vi x.2.1, vi x.2.2.1, vi x.2.2.2.1, vi x.2.2.2.2], .row 0 ws true]) ?_ (iv, cur2, c, c2, c3, c4)
  intro s_ J1 h
  clear iv
  clear cur2
  clear c
  clear c2
  clear c3
  clear c4
  obtain ⟨iv, cur2, c, c2, c3, c4⟩ := s_
  refine Eq.mpr (you y0n y0l ws cur xs l2 a_0 a_1 a_2 a_3 U U2 iv cur2 c c2 c3 c4 K J1) ?_
  have h : So (y58 ws.length l2 iv cur2 c c2 c3 c4) _ := h
  unfold y58 at h
  revert h
  exact br_So (andV hx (bind_So fun y0 => req_So (br_So (fun h => h) (br_So (fun h => h) (br_So (fun h => h) (br_So (fun h => h) (fun _ => trivial))))))) (andV hx (bind_So fun y1 => fun h => h))
theorem yk2 : SpecOK Tryz.prog elTT 35 (yc2 y48) := by
  refine spec_of_exF (cfg := (y50 y0n y0l)) (yg rfl rfl rfl) (yc yh4 (yc ygy yh)) (fn := Tryz.f35) (by kernel_rfl) (by kernel_rfl) (by kernel_rfl) ?_
  intro args H K h
  change ycr y48 args H K at h
  unfold ycr at h
  repeat first | (obtain ⟨_, h⟩ := h) | replace h := Des.el h
  subst_vars
  refine Eq.mpr (yq1 y0n y0l _ _ _ _ _ _ _ _ _ _ K) ?_
  unfold y48 at h
  revert h
  exact lpok_law11_lives_1_L1 _ (by first | assumption | exact default) _ _ (by first | assumption | exact default) (by first | assumption | exact default) (by first | assumption | exact default) (by first | assumption | exact default) _ _ _ _ _ _ _ _ K (by assumption)
end Go.Rx
end
