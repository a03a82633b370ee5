/- What the row's text of this claim stands on, part 3: the symbolic executor, contracts of the program's functions, plain facts. No condition. -/
import Derived.WalkKit
import Derived.ProofKit
import Derived.OpenShut
import Derived.Carry
import Derived.Deep.Slices
import Derived.JoinedOf
import Derived.Test.YtomfeogahjiehaaK27aB
noncomputable section
namespace Go.Rx
open Go.Proofs
set_option maxRecDepth 100000
set_option maxHeartbeats 4000000
def y98 (m_ : Y2) (args : List V) (H : Heap) (K : V → Heap → Prop) : Prop :=
  aC args fun a0 r => aN r <| aInt a0 fun c => aN H <| So (m_ c) fun x => K (vi x) []
def y5u (m_ : Y2) : Spec := ⟨y98 m_, (true : Bool)⟩
def y94 (m_ : Y2) (args : List V) (H : Heap) (K : V → Heap → Prop) : Prop :=
  aC args fun a0 r => aN r <| aInt a0 fun n => aN H <| So (m_ n) fun x => K (vi x) []
def ybp (m_ : Y2) : Spec := ⟨y94 m_, (true : Bool)⟩
def y84 (m_ : Y2) (args : List V) (H : Heap) (K : V → Heap → Prop) : Prop :=
  aC args fun a0 r => aN r <| aInt a0 fun n => aN H <| So (m_ n) fun x => K (vi x) []
def yee (m_ : Y2) : Spec := ⟨y84 m_, (true : Bool)⟩
def y76 (m_ : Y21) (args : List V) (H : Heap) (K : V → Heap → Prop) : Prop :=
  aC args fun a0 r => aN r <| aInt a0 fun align => aN H <| So (m_ align) fun x => K (vb x) []
def ya0 (m_ : Y21) : Spec := ⟨y76 m_, (true : Bool)⟩
def y7z (m_ : Y5) (args : List V) (H : Heap) (K : V → Heap → Prop) : Prop :=
  aC args fun a0 r => aC r fun a1 r => aN r <| aInt a0 fun n => aInt a1 fun align => aN H <| So (m_ n align) fun x => K (.tup [vi x.1, vi x.2.1, vi x.2.2.1, vi x.2.2.2]) []
def y7r (m_ : Y5) : Spec := ⟨y7z m_, (true : Bool)⟩
def y9j (m_ : Y18) (args : List V) (H : Heap) (K : V → Heap → Prop) : Prop :=
  aC args fun a0 r => aC r fun a1 r => aN r <| aInt a0 fun n => aInt a1 fun align => aN H <| So (m_ n align) fun x => K (.tup [vi x.1, vi x.2]) []
def ycx (m_ : Y18) : Spec := ⟨y9j m_, (true : Bool)⟩
def y70 (m_ : Y25) (args : List V) (H : Heap) (K : V → Heap → Prop) : Prop :=
  aC args fun a0 r => aN r <| aAgg a0 fun c0 => y56 c0 fun sv => aN H <| So (m_ sv) fun x => K (vb x) []
def ycd (m_ : Y25) : Spec := ⟨y70 m_, (true : Bool)⟩
def y8y (m_ : Y12) (args : List V) (H : Heap) (K : V → Heap → Prop) : Prop :=
  aC args fun a0 r => aN r <| aAgg a0 fun c0 => y1z c0 fun c => aN H <| So (m_ c) fun x => K (vi x) []
def yaw (m_ : Y12) : Spec := ⟨y8y m_, (true : Bool)⟩
def y88 (m_ : Y21) (args : List V) (H : Heap) (K : V → Heap → Prop) : Prop :=
  aC args fun a0 r => aN r <| aInt a0 fun kindv => aN H <| So (m_ kindv) fun x => K (vb x) []
def ydf (m_ : Y21) : Spec := ⟨y88 m_, (true : Bool)⟩
def y7e (m_ : Y12) (args : List V) (H : Heap) (K : V → Heap → Prop) : Prop :=
  aC args fun a0 r => aN r <| aAgg a0 fun c0 => y1z c0 fun c => aN H <| So (m_ c) fun x => K (vi x) []
def yad (m_ : Y12) : Spec := ⟨y7e m_, (true : Bool)⟩
def y3n  : Cfg := { cfgB with
  sigs := sigN,
  keep := fun r => match r with | 5 => some [(0, none), (3, none), (4, none)] | _ => none }
def y3f (y0s : Y2) : Cfg := { cfgB with
  sigs := (sigC 110 (y5u y0s) sigN),
  keep := fun r => match r with | 2 => some [(0, none), (3, none)] | _ => none }
def ycl  : Cfg := { cfgB with
  sigs := sigN }
def y3q  : Cfg := { cfgB with
  sigs := sigN,
  keep := fun r => match r with | 2 => some [(0, none), (3, none)] | _ => none }
def yde (y2v : Y21) (y2d y2f : Y2) : Cfg := { cfgB with
  sigs := (sigC 101 (ya0 y2v) (sigC 102 (ybp y2d) (sigC 103 (yee y2f) sigN))) }
def ycj (y1r : Y5) (y0s : Y2) : Cfg := { cfgB with
  sigs := (sigC 81 (y7r y1r) (sigC 110 (y5u y0s) sigN)) }
def yd4  : Cfg := { cfgB with
  sigs := sigN }
def yc2  : Cfg := { cfgB with
  sigs := sigN }
def ybf  : Cfg := { cfgB with
  sigs := sigN }
def yc1 (y2l : Y12) (y1r : Y5) (y33 : Y21) : Cfg := { cfgB with
  sigs := (sigC 82 (yaw y2l) (sigC 81 (y7r y1r) (sigC 83 (ydf y33) sigN))),
  plan := fun r => match r with | 3 => some (List.range 14, 0) | _ => none }
theorem yje (c n iv : Int) (K : V → Heap → Prop) (J1 : Env → Heap → Prop) : (ex y3n (⟨19, 0⟩ : Cx) (at_ (bodyOf Try.f110) [1, 1, 1, 0, 1, 0, 0]) (mkEnv [(0, vi c), (3, vi n), (4, vi iv)]) [] (roundK y3n (⟨19, 0⟩ : Cx) (at_ (bodyOf Try.f110) [1, 1, 1, 0, 1, 0, 0]) (contK y3n (⟨19, 0⟩ : Cx) (bodyOf Try.f110) [1, 1, 1, 0, 1, 0] (retK y3n Try.f110 0 K)) J1)) = (
    br (decide (iv < c)) (J1 (mkEnv [(0, vi c), (3, vi (IntKind.i64.wrap (n * 2))), (4, vi (IntKind.i64.wrap (iv + 1)))]) []) (K (vi n) [])) := by kernel_rfl
theorem yi0 (c : Int) (K : V → Heap → Prop) : (exF y3n Try.f110 [vi c] [] K) = (
    br (decide (c < 0)) (K (vi 0) []) (br (decide (c > 4)) (K (vi 0) []) (Loop y3n (⟨19, 0⟩ : Cx) (at_ (bodyOf Try.f110) [1, 1, 1, 0, 1, 0, 0]) (mkEnv [(0, vi c), (3, vi 1), (4, vi 0)]) [] (contK y3n (⟨19, 0⟩ : Cx) (bodyOf Try.f110) [1, 1, 1, 0, 1, 0] (retK y3n Try.f110 0 K))))) := by kernel_rfl
theorem yge (y0s : Y2) (n c : Int) (K : V → Heap → Prop) (J1 : Env → Heap → Prop) : (ex (y3f y0s) (⟨13, 0⟩ : Cx) (at_ (bodyOf Try.f102) [1, 0, 1, 0, 0]) (mkEnv [(0, vi n), (3, vi c)]) [] (roundK (y3f y0s) (⟨13, 0⟩ : Cx) (at_ (bodyOf Try.f102) [1, 0, 1, 0, 0]) (contK (y3f y0s) (⟨13, 0⟩ : Cx) (bodyOf Try.f102) [1, 0, 1, 0] (retK (y3f y0s) Try.f102 0 K)) J1)) = (
    br (decide (c < 5)) (So (y0s c) (fun (y0 : Int) => (br (decide (y0 ≥ n)) (K (vi c) []) (J1 (mkEnv [(0, vi n), (3, vi (IntKind.i64.wrap (c + 1)))]) [])))) (K (vi (-1)) [])) := by kernel_rfl
theorem ygv (y0s : Y2) (n : Int) (K : V → Heap → Prop) : (exF (y3f y0s) Try.f102 [vi n] [] K) = (
    Loop (y3f y0s) (⟨13, 0⟩ : Cx) (at_ (bodyOf Try.f102) [1, 0, 1, 0, 0]) (mkEnv [(0, vi n), (3, vi 0)]) [] (contK (y3f y0s) (⟨13, 0⟩ : Cx) (bodyOf Try.f102) [1, 0, 1, 0] (retK (y3f y0s) Try.f102 0 K))) := by kernel_rfl
theorem ygx (n : Int) (K : V → Heap → Prop) : (exF ycl Try.f103 [vi n] [] K) = (
    br (decide (n < 1)) (K (vi 0) []) (K (vi (IntKind.i64.wrap (IntKind.i64.wrap (Int.tdiv (IntKind.i64.wrap (n - 1)) 32) + 1))) [])) := by kernel_rfl
theorem yfj (align p : Int) (K : V → Heap → Prop) (J1 : Env → Heap → Prop) : (ex y3q (⟨11, 0⟩ : Cx) (at_ (bodyOf Try.f101) [1, 0, 1, 0, 0]) (mkEnv [(0, vi align), (3, vi p)]) [] (roundK y3q (⟨11, 0⟩ : Cx) (at_ (bodyOf Try.f101) [1, 0, 1, 0, 0]) (contK y3q (⟨11, 0⟩ : Cx) (bodyOf Try.f101) [1, 0, 1, 0] (retK y3q Try.f101 0 K)) J1)) = (
    br (decide (p ≤ 128)) (br (p == align) (K (vb true) []) (J1 (mkEnv [(0, vi align), (3, vi (IntKind.i64.wrap (p * 2)))]) [])) (K (vb false) [])) := by kernel_rfl
theorem yi5 (align : Int) (K : V → Heap → Prop) : (exF y3q Try.f101 [vi align] [] K) = (
    Loop y3q (⟨11, 0⟩ : Cx) (at_ (bodyOf Try.f101) [1, 0, 1, 0, 0]) (mkEnv [(0, vi align), (3, vi 1)]) [] (contK y3q (⟨11, 0⟩ : Cx) (bodyOf Try.f101) [1, 0, 1, 0] (retK y3q Try.f101 0 K))) := by kernel_rfl
theorem ygz (y2v : Y21) (y2d y2f : Y2) (n align : Int) (K : V → Heap → Prop) : (exF (yde y2v y2d y2f) Try.f81 [vi n, vi align] [] K) = (
    br (decide (n < 0)) (K (.tup [vi 0, vi 0, vi 0, vi 2]) []) (So (y2v align) (fun (y0 : Bool) => (br (!y0) (K (.tup [vi 0, vi 0, vi 0, vi 2]) []) (br (decide (n ≤ 16)) (br (decide (align ≤ 16)) (So (y2d n) (fun (y1 : Int) => (So (y2d align) (fun (y2 : Int) => (K (.tup [vi (if y2 > y1 then y2 else y1), vi 0, vi 0, vi 0]) []))))) (So (y2f (if (1 : Int) > n then (1 : Int) else n)) (fun (y3 : Int) => (K (.tup [vi (-1), vi y3, vi (if IntKind.i64.wrap (Int.tdiv align (32 : Int)) > (1 : Int) then IntKind.i64.wrap (Int.tdiv align (32 : Int)) else (1 : Int)), vi 0]) [])))) (So (y2f (if (1 : Int) > n then (1 : Int) else n)) (fun (y4 : Int) => (K (.tup [vi (-1), vi y4, vi (if IntKind.i64.wrap (Int.tdiv align (32 : Int)) > (1 : Int) then IntKind.i64.wrap (Int.tdiv align (32 : Int)) else (1 : Int)), vi 0]) [])))))))) := by kernel_rfl
theorem yh8 (y1r : Y5) (y0s : Y2) (n align : Int) (K : V → Heap → Prop) : (exF (ycj y1r y0s) Try.f104 [vi n, vi align] [] K) = (
    So (y1r n align) (fun (y0 : Int × Int × Int × Int) => (br (y0.2.2.2 != 0) (K (.tup [vi 0, vi y0.2.2.2]) []) (So (y0s y0.1) (fun (y1 : Int) => (K (.tup [vi (IntKind.i64.wrap (y1 + IntKind.i64.wrap (32 * y0.2.1))), vi 0]) [])))))) := by kernel_rfl
theorem yhb (sv : ya) (K : V → Heap → Prop) : (exF yd4 Try.f49 [.agg (y58 sv)] [] K) = (
    br (decide ((if sv.Used < if sv.Mapped < if sv.Open < if sv.Kept < if sv.Words < if sv.Asked < sv.Blocks then sv.Asked else sv.Blocks then sv.Words else if sv.Asked < sv.Blocks then sv.Asked else sv.Blocks then sv.Kept else if sv.Words < if sv.Asked < sv.Blocks then sv.Asked else sv.Blocks then sv.Words else if sv.Asked < sv.Blocks then sv.Asked else sv.Blocks then sv.Open else if sv.Kept < if sv.Words < if sv.Asked < sv.Blocks then sv.Asked else sv.Blocks then sv.Words else if sv.Asked < sv.Blocks then sv.Asked else sv.Blocks then sv.Kept else if sv.Words < if sv.Asked < sv.Blocks then sv.Asked else sv.Blocks then sv.Words else if sv.Asked < sv.Blocks then sv.Asked else sv.Blocks then sv.Mapped else if sv.Open < if sv.Kept < if sv.Words < if sv.Asked < sv.Blocks then sv.Asked else sv.Blocks then sv.Words else if sv.Asked < sv.Blocks then sv.Asked else sv.Blocks then sv.Kept else if sv.Words < if sv.Asked < sv.Blocks then sv.Asked else sv.Blocks then sv.Words else if sv.Asked < sv.Blocks then sv.Asked else sv.Blocks then sv.Open else if sv.Kept < if sv.Words < if sv.Asked < sv.Blocks then sv.Asked else sv.Blocks then sv.Words else if sv.Asked < sv.Blocks then sv.Asked else sv.Blocks then sv.Kept else if sv.Words < if sv.Asked < sv.Blocks then sv.Asked else sv.Blocks then sv.Words else if sv.Asked < sv.Blocks then sv.Asked else sv.Blocks then sv.Used else if sv.Mapped < if sv.Open < if sv.Kept < if sv.Words < if sv.Asked < sv.Blocks then sv.Asked else sv.Blocks then sv.Words else if sv.Asked < sv.Blocks then sv.Asked else sv.Blocks then sv.Kept else if sv.Words < if sv.Asked < sv.Blocks then sv.Asked else sv.Blocks then sv.Words else if sv.Asked < sv.Blocks then sv.Asked else sv.Blocks then sv.Open else if sv.Kept < if sv.Words < if sv.Asked < sv.Blocks then sv.Asked else sv.Blocks then sv.Words else if sv.Asked < sv.Blocks then sv.Asked else sv.Blocks then sv.Kept else if sv.Words < if sv.Asked < sv.Blocks then sv.Asked else sv.Blocks then sv.Words else if sv.Asked < sv.Blocks then sv.Asked else sv.Blocks then sv.Mapped else if sv.Open < if sv.Kept < if sv.Words < if sv.Asked < sv.Blocks then sv.Asked else sv.Blocks then sv.Words else if sv.Asked < sv.Blocks then sv.Asked else sv.Blocks then sv.Kept else if sv.Words < if sv.Asked < sv.Blocks then sv.Asked else sv.Blocks then sv.Words else if sv.Asked < sv.Blocks then sv.Asked else sv.Blocks then sv.Open else if sv.Kept < if sv.Words < if sv.Asked < sv.Blocks then sv.Asked else sv.Blocks then sv.Words else if sv.Asked < sv.Blocks then sv.Asked else sv.Blocks then sv.Kept else if sv.Words < if sv.Asked < sv.Blocks then sv.Asked else sv.Blocks then sv.Words else if sv.Asked < sv.Blocks then sv.Asked else sv.Blocks) < (0 : Int))) (K (vb false) []) (br (decide (sv.Asked > sv.Words)) (K (vb false) []) (br (decide (sv.Blocks > sv.Words)) (K (vb false) []) (br (decide (sv.Used > sv.Mapped)) (K (vb false) []) (br (decide (sv.Used > 1099511627776)) (K (vb false) []) (br (decide (sv.Words > 35184372088832)) (K (vb false) []) (br (decide (sv.Kept > 35184372088832)) (K (vb false) []) (K (vb (sv.Open == IntKind.i64.wrap (IntKind.i64.wrap (IntKind.i64.wrap (32 * sv.Used) - sv.Words) - sv.Kept))) [])))))))) := by kernel_rfl
theorem yi2 (c : yc) (K : V → Heap → Prop) : (exF yc2 Try.f82 [.agg (y0p c)] [] K) = (
    br (c.Kind == 5) (K (vi c.Align) []) (K (vi 1) [])) := by kernel_rfl
theorem yjt (kindv : Int) (K : V → Heap → Prop) : (exF ybf Try.f83 [vi kindv] [] K) = (
    br (kindv == 1) (K (vb true) []) (br (kindv == 3) (K (vb true) []) (br (kindv == 4) (K (vb true) []) (K (vb (kindv == 5)) [])))) := by kernel_rfl
theorem yio (y2l : Y12) (y1r : Y5) (y33 : Y21) (c : yc) (K : V → Heap → Prop) : (exF (yc1 y2l y1r y33) Try.f43 [.agg (y0p c)] [] K) = (
    br (decide (c.Kind < 1)) (K (vi 2) []) (br (decide (c.Kind > 12)) (K (vi 2) []) (So (y2l c) (fun (y0 : Int) => (So (y1r c.Size y0) (fun (y1 : Int × Int × Int × Int) => (So (y33 c.Kind) (fun (y2 : Bool) => (br y2 (br (y1.2.2.2 != 0) (K (vi 2) []) (K (vi 0) [])) (K (vi 0) [])))))))))) := by kernel_rfl
def y9f (c n iv : Int) : Option ((Int × Int) ⊕ Int) :=
  (bif (decide (iv < c)) then some (.inl ((IntKind.i64.wrap (n * 2)), (IntKind.i64.wrap (iv + 1)))) else some (.inr n))
def yae (c : Int) (s : Int × Int) : Option Int :=
  loopO (fun s => y9f c s.1 s.2) s
def y0s (c : Int) : Option Int :=
  (bif (decide (c < 0)) then some 0 else (bif (decide (c > 4)) then some 0 else (yae c (1, 0))))
def y4y (n c : Int) : Option (Int ⊕ Int) :=
  (bif (decide (c < 5)) then ((y0s c).bind fun y0 => (bif (decide (y0 ≥ n)) then some (.inr c) else some (.inl (IntKind.i64.wrap (c + 1))))) else some (.inr (-1)))
def y81 (n s : Int) : Option Int :=
  loopO (fun s => y4y n s) s
def y2d (n : Int) : Option Int :=
  (y81 n 0)
def y2f (n : Int) : Option Int :=
  (bif (decide (n < 1)) then some 0 else some (IntKind.i64.wrap (IntKind.i64.wrap (Int.tdiv (IntKind.i64.wrap (n - 1)) 32) + 1)))
def y55 (align p : Int) : Option (Int ⊕ Bool) :=
  (bif (decide (p ≤ 128)) then (bif (p == align) then some (.inr true) else some (.inl (IntKind.i64.wrap (p * 2)))) else some (.inr false))
def y6s (align s : Int) : Option Bool :=
  loopO (fun s => y55 align s) s
def y2v (align : Int) : Option Bool :=
  (y6s align 1)
def y1r (n align : Int) : Option (Int × Int × Int × Int) :=
  (bif (decide (n < 0)) then some (0, 0, 0, 2) else ((y2v align).bind fun y0 => (bif (!y0) then some (0, 0, 0, 2) else (bif (decide (n ≤ 16)) then (bif (decide (align ≤ 16)) then ((y2d n).bind fun y1 => ((y2d align).bind fun y2 => some ((if y2 > y1 then y2 else y1), 0, 0, 0))) else ((y2f (if (1 : Int) > n then (1 : Int) else n)).bind fun y3 => some ((-1), y3, (if IntKind.i64.wrap (Int.tdiv align (32 : Int)) > (1 : Int) then IntKind.i64.wrap (Int.tdiv align (32 : Int)) else (1 : Int)), 0))) else ((y2f (if (1 : Int) > n then (1 : Int) else n)).bind fun y4 => some ((-1), y4, (if IntKind.i64.wrap (Int.tdiv align (32 : Int)) > (1 : Int) then IntKind.i64.wrap (Int.tdiv align (32 : Int)) else (1 : Int)), 0))))))
def y36 (n align : Int) : Option (Int × Int) :=
  ((y1r n align).bind fun y0 => (bif (y0.2.2.2 != 0) then some (0, y0.2.2.2) else ((y0s y0.1).bind fun y1 => some ((IntKind.i64.wrap (y1 + IntKind.i64.wrap (32 * y0.2.1))), 0))))
def y2g (sv : ya) : Option Bool :=
  (bif (decide ((if sv.Used < if sv.Mapped < if sv.Open < if sv.Kept < if sv.Words < if sv.Asked < sv.Blocks then sv.Asked else sv.Blocks then sv.Words else if sv.Asked < sv.Blocks then sv.Asked else sv.Blocks then sv.Kept else if sv.Words < if sv.Asked < sv.Blocks then sv.Asked else sv.Blocks then sv.Words else if sv.Asked < sv.Blocks then sv.Asked else sv.Blocks then sv.Open else if sv.Kept < if sv.Words < if sv.Asked < sv.Blocks then sv.Asked else sv.Blocks then sv.Words else if sv.Asked < sv.Blocks then sv.Asked else sv.Blocks then sv.Kept else if sv.Words < if sv.Asked < sv.Blocks then sv.Asked else sv.Blocks then sv.Words else if sv.Asked < sv.Blocks then sv.Asked else sv.Blocks then sv.Mapped else if sv.Open < if sv.Kept < if sv.Words < if sv.Asked < sv.Blocks then sv.Asked else sv.Blocks then sv.Words else if sv.Asked < sv.Blocks then sv.Asked else sv.Blocks then sv.Kept else if sv.Words < if sv.Asked < sv.Blocks then sv.Asked else sv.Blocks then sv.Words else if sv.Asked < sv.Blocks then sv.Asked else sv.Blocks then sv.Open else if sv.Kept < if sv.Words < if sv.Asked < sv.Blocks then sv.Asked else sv.Blocks then sv.Words else if sv.Asked < sv.Blocks then sv.Asked else sv.Blocks then sv.Kept else if sv.Words < if sv.Asked < sv.Blocks then sv.Asked else sv.Blocks then sv.Words else if sv.Asked < sv.Blocks then sv.Asked else sv.Blocks then sv.Used else if sv.Mapped < if sv.Open < if sv.Kept < if sv.Words < if sv.Asked < sv.Blocks then sv.Asked else sv.Blocks then sv.Words else if sv.Asked < sv.Blocks then sv.Asked else sv.Blocks then sv.Kept else if sv.Words < if sv.Asked < sv.Blocks then sv.Asked else sv.Blocks then sv.Words else if sv.Asked < sv.Blocks then sv.Asked else sv.Blocks then sv.Open else if sv.Kept < if sv.Words < if sv.Asked < sv.Blocks then sv.Asked else sv.Blocks then sv.Words else if sv.Asked < sv.Blocks then sv.Asked else sv.Blocks then sv.Kept else if sv.Words < if sv.Asked < sv.Blocks then sv.Asked else sv.Blocks then sv.Words else if sv.Asked < sv.Blocks then sv.Asked else sv.Blocks then sv.Mapped else if sv.Open < if sv.Kept < if sv.Words < if sv.Asked < sv.Blocks then sv.Asked else sv.Blocks then sv.Words else if sv.Asked < sv.Blocks then sv.Asked else sv.Blocks then sv.Kept else if sv.Words < if sv.Asked < sv.Blocks then sv.Asked else sv.Blocks then sv.Words else if sv.Asked < sv.Blocks then sv.Asked else sv.Blocks then sv.Open else if sv.Kept < if sv.Words < if sv.Asked < sv.Blocks then sv.Asked else sv.Blocks then sv.Words else if sv.Asked < sv.Blocks then sv.Asked else sv.Blocks then sv.Kept else if sv.Words < if sv.Asked < sv.Blocks then sv.Asked else sv.Blocks then sv.Words else if sv.Asked < sv.Blocks then sv.Asked else sv.Blocks) < (0 : Int))) then some false else (bif (decide (sv.Asked > sv.Words)) then some false else (bif (decide (sv.Blocks > sv.Words)) then some false else (bif (decide (sv.Used > sv.Mapped)) then some false else (bif (decide (sv.Used > 1099511627776)) then some false else (bif (decide (sv.Words > 35184372088832)) then some false else (bif (decide (sv.Kept > 35184372088832)) then some false else some (sv.Open == IntKind.i64.wrap (IntKind.i64.wrap (IntKind.i64.wrap (32 * sv.Used) - sv.Words) - sv.Kept)))))))))
def y2l (c : yc) : Option Int :=
  (bif (c.Kind == 5) then some c.Align else some 1)
def y33 (kindv : Int) : Option Bool :=
  (bif (kindv == 1) then some true else (bif (kindv == 3) then some true else (bif (kindv == 4) then some true else some (kindv == 5))))
def y2b (c : yc) : Option Int :=
  (bif (decide (c.Kind < 1)) then some 2 else (bif (decide (c.Kind > 12)) then some 2 else ((y2l c).bind fun y0 => ((y1r c.Size y0).bind fun y1 => ((y33 c.Kind).bind fun y2 => (bif y2 then (bif (y1.2.2.2 != 0) then some 2 else some 0) else some 0))))))
attribute [local irreducible] Loop ex exF contK roundK retK at_ bodyOf mkEnv
theorem lpok_ref03_Size_L1 (c n iv : Int) (K : V → Heap → Prop) : So (yae c (n, iv)) (fun (x : Int) => K (vi x) []) → Loop y3n (⟨19, 0⟩ : Cx) (at_ (bodyOf Try.f110) [1, 1, 1, 0, 1, 0, 0]) (mkEnv [(0, vi c), (3, vi n), (4, vi iv)]) [] (contK y3n (⟨19, 0⟩ : Cx) (bodyOf Try.f110) [1, 1, 1, 0, 1, 0] (retK y3n Try.f110 0 K)) := by
  refine loopK_So (fun (s_ : Int × Int) => (mkEnv [(0, vi c), (3, vi s_.1), (4, vi s_.2)])) (fun (s_ : Int × Int) => []) (fun (x : Int) => K (vi x) []) ?_ (n, iv)
  intro s_ J1 h
  clear n
  clear iv
  obtain ⟨n, iv⟩ := s_
  refine Eq.mpr (yje c n iv K J1) ?_
  have h : So (y9f c n iv) _ := h
  unfold y9f at h
  revert h
  exact br_So (fun h => h) (fun h => h)
theorem ycu : SpecOK Try.prog elTT 110 (y5u y0s) := by
  refine spec_of_exF (cfg := y3n) (yn rfl rfl rfl) yp (fn := Try.f110) (by kernel_rfl) (by kernel_rfl) (by kernel_rfl) ?_
  intro args H K h
  change y98 y0s args H K at h
  unfold y98 at h
  repeat first | (obtain ⟨_, h⟩ := h) | replace h := Des.el h
  subst_vars
  refine Eq.mpr (yi0 _ K) ?_
  unfold y0s at h
  revert h
  exact br_So (fun h => h) (br_So (fun h => h) (lpok_ref03_Size_L1 _ _ _ K))
theorem lpok_ref03_Of_L1 (n c : Int) (K : V → Heap → Prop) : So (y81 n c) (fun (x : Int) => K (vi x) []) → Loop (y3f y0s) (⟨13, 0⟩ : Cx) (at_ (bodyOf Try.f102) [1, 0, 1, 0, 0]) (mkEnv [(0, vi n), (3, vi c)]) [] (contK (y3f y0s) (⟨13, 0⟩ : Cx) (bodyOf Try.f102) [1, 0, 1, 0] (retK (y3f y0s) Try.f102 0 K)) := by
  refine loopK_So (fun (s_ : Int) => (mkEnv [(0, vi n), (3, vi s_)])) (fun (s_ : Int) => []) (fun (x : Int) => K (vi x) []) ?_ c
  intro s_ J1 h
  clear c
  revert h; revert s_; intro c h
  refine Eq.mpr (yge y0s n c K J1) ?_
  have h : So (y4y n c) _ := h
  unfold y4y at h
  revert h
  exact br_So (bind_So fun y0 => br_So (fun h => h) (fun h => h)) (fun h => h)
theorem yj0 : SpecOK Try.prog elTT 102 (ybp y2d) := by
  refine spec_of_exF (cfg := (y3f y0s)) (yn rfl rfl rfl) (yj ycu yp) (fn := Try.f102) (by kernel_rfl) (by kernel_rfl) (by kernel_rfl) ?_
  intro args H K h
  change y94 y2d args H K at h
  unfold y94 at h
  repeat first | (obtain ⟨_, h⟩ := h) | replace h := Des.el h
  subst_vars
  refine Eq.mpr (ygv y0s _ K) ?_
  unfold y2d at h
  revert h
  exact lpok_ref03_Of_L1 _ _ K
theorem yfl : SpecOK Try.prog elTT 103 (yee y2f) := by
  refine spec_of_exF (cfg := ycl) (yn rfl rfl rfl) yp (fn := Try.f103) (by kernel_rfl) (by kernel_rfl) (by kernel_rfl) ?_
  intro args H K h
  change y84 y2f args H K at h
  unfold y84 at h
  repeat first | (obtain ⟨_, h⟩ := h) | replace h := Des.el h
  subst_vars
  refine Eq.mpr (ygx _ K) ?_
  unfold y2f at h
  revert h
  exact br_So (fun h => h) (fun h => h)
theorem lpok_ref03_power_L1 (align p : Int) (K : V → Heap → Prop) : So (y6s align p) (fun (x : Bool) => K (vb x) []) → Loop y3q (⟨11, 0⟩ : Cx) (at_ (bodyOf Try.f101) [1, 0, 1, 0, 0]) (mkEnv [(0, vi align), (3, vi p)]) [] (contK y3q (⟨11, 0⟩ : Cx) (bodyOf Try.f101) [1, 0, 1, 0] (retK y3q Try.f101 0 K)) := by
  refine loopK_So (fun (s_ : Int) => (mkEnv [(0, vi align), (3, vi s_)])) (fun (s_ : Int) => []) (fun (x : Bool) => K (vb x) []) ?_ p
  intro s_ J1 h
  clear p
  revert h; revert s_; intro p h
  refine Eq.mpr (yfj align p K J1) ?_
  have h : So (y55 align p) _ := h
  unfold y55 at h
  revert h
  exact br_So (br_So (fun h => h) (fun h => h)) (fun h => h)
theorem yex : SpecOK Try.prog elTT 101 (ya0 y2v) := by
  refine spec_of_exF (cfg := y3q) (yn rfl rfl rfl) yp (fn := Try.f101) (by kernel_rfl) (by kernel_rfl) (by kernel_rfl) ?_
  intro args H K h
  change y76 y2v args H K at h
  unfold y76 at h
  repeat first | (obtain ⟨_, h⟩ := h) | replace h := Des.el h
  subst_vars
  refine Eq.mpr (yi5 _ K) ?_
  unfold y2v at h
  revert h
  exact lpok_ref03_power_L1 _ _ K
theorem ye9 : SpecOK Try.prog elTT 81 (y7r y1r) := by
  refine spec_of_exF (cfg := (yde y2v y2d y2f)) (yn rfl rfl rfl) (yj yex (yj yj0 (yj yfl yp))) (fn := Try.f81) (by kernel_rfl) (by kernel_rfl) (by kernel_rfl) ?_
  intro args H K h
  change y7z y1r args H K at h
  unfold y7z at h
  repeat first | (obtain ⟨_, h⟩ := h) | replace h := Des.el h
  subst_vars
  refine Eq.mpr (ygz y2v y2d y2f _ _ K) ?_
  unfold y1r at h
  revert h
  exact br_So (fun h => h) (bind_So fun y0 => br_So (fun h => h) (br_So (br_So (bind_So fun y1 => bind_So fun y2 => fun h => h) (bind_So fun y3 => fun h => h)) (bind_So fun y4 => fun h => h)))
theorem yhq : SpecOK Try.prog elTT 104 (ycx y36) := by
  refine spec_of_exF (cfg := (ycj y1r y0s)) (yn rfl rfl rfl) (yj ye9 (yj ycu yp)) (fn := Try.f104) (by kernel_rfl) (by kernel_rfl) (by kernel_rfl) ?_
  intro args H K h
  change y9j y36 args H K at h
  unfold y9j at h
  repeat first | (obtain ⟨_, h⟩ := h) | replace h := Des.el h
  subst_vars
  refine Eq.mpr (yh8 y1r y0s _ _ K) ?_
  unfold y36 at h
  revert h
  exact bind_So fun y0 => br_So (fun h => h) (bind_So fun y1 => fun h => h)
theorem yhd : SpecOK Try.prog elTT 49 (ycd y2g) := by
  refine spec_of_exF (cfg := yd4) (yn rfl rfl rfl) yp (fn := Try.f49) (by kernel_rfl) (by kernel_rfl) (by kernel_rfl) ?_
  intro args H K h
  change y70 y2g args H K at h
  unfold y70 at h
  repeat first | (obtain ⟨_, h⟩ := h) | replace h := Des.el h
  subst_vars
  refine Eq.mpr (yhb _ K) ?_
  unfold y2g at h
  revert h
  exact br_So (fun h => h) (br_So (fun h => h) (br_So (fun h => h) (br_So (fun h => h) (br_So (fun h => h) (br_So (fun h => h) (br_So (fun h => h) (fun h => h)))))))
theorem yfc : SpecOK Try.prog elTT 82 (yaw y2l) := by
  refine spec_of_exF (cfg := yc2) (yn rfl rfl rfl) yp (fn := Try.f82) (by kernel_rfl) (by kernel_rfl) (by kernel_rfl) ?_
  intro args H K h
  change y8y y2l args H K at h
  unfold y8y at h
  repeat first | (obtain ⟨_, h⟩ := h) | replace h := Des.el h
  subst_vars
  refine Eq.mpr (yi2 _ K) ?_
  unfold y2l at h
  revert h
  exact br_So (fun h => h) (fun h => h)
theorem yjo : SpecOK Try.prog elTT 83 (ydf y33) := by
  refine spec_of_exF (cfg := ybf) (yn rfl rfl rfl) yp (fn := Try.f83) (by kernel_rfl) (by kernel_rfl) (by kernel_rfl) ?_
  intro args H K h
  change y88 y33 args H K at h
  unfold y88 at h
  repeat first | (obtain ⟨_, h⟩ := h) | replace h := Des.el h
  subst_vars
  refine Eq.mpr (yjt _ K) ?_
  unfold y33 at h
  revert h
  exact br_So (fun h => h) (br_So (fun h => h) (br_So (fun h => h) (fun h => h)))
theorem yfx : SpecOK Try.prog elTT 43 (yad y2b) := by
  refine spec_of_exF (cfg := (yc1 y2l y1r y33)) (yn rfl rfl rfl) (yj yfc (yj ye9 (yj yjo yp))) (fn := Try.f43) (by kernel_rfl) (by kernel_rfl) (by kernel_rfl) ?_
  intro args H K h
  change y7e y2b args H K at h
  unfold y7e at h
  repeat first | (obtain ⟨_, h⟩ := h) | replace h := Des.el h
  subst_vars
  refine Eq.mpr (yio y2l y1r y33 _ K) ?_
  unfold y2b at h
  revert h
  exact br_So (fun h => h) (br_So (fun h => h) (bind_So fun y0 => bind_So fun y1 => bind_So fun y2 => br_So (br_So (fun h => h) (fun h => h)) (fun h => h)))
end Go.Rx
end

section
namespace Go.Rx
theorem loopO_ind {σ ρ : Type} {step : σ → Option (σ ⊕ ρ)} (I : σ → Prop) (μ : σ → Nat) (Q : ρ → Prop)
    (h : ∀ s, I s → (∃ s', step s = some (.inl s') ∧ I s' ∧ μ s' < μ s) ∨ (∃ r, step s = some (.inr r) ∧ Q r)) (s : σ) (hs : I s) : ∃ r, loopO step s = some r ∧ Q r := by
  have key : ∀ n s, I s → μ s ≤ n → ∃ r, loopO step s = some r ∧ Q r := by
    intro n
    induction n with
    | zero =>
      intro s hs hm
      rcases h s hs with ⟨s', h1, h2, h3⟩ | ⟨r, h1, h2⟩
      · omega
      · exact ⟨r, loopO_end h1, h2⟩
    | succ n ih =>
      intro s hs hm
      rcases h s hs with ⟨s', h1, h2, h3⟩ | ⟨r, h1, h2⟩
      · rw [loopO_go h1]; exact ih s' h2 (by omega)
      · exact ⟨r, loopO_end h1, h2⟩
  exact key _ s hs (Nat.le_refl _)
structure Inv (P : Int → Prop) (w : List Int) : Prop where
  nd : w.Nodup
  all : ∀ x ∈ w, P x
theorem Inv.push {P P' : Int → Prop} {w : List Int} {e : Int} (h : Inv P w) (he : ¬ P e) (h1 : ∀ x, P x → P' x) (h2 : P' e) : Inv P' (w ++ [e]) := by
  refine ⟨List.nodup_append.2 ⟨h.nd, by simp, ?_⟩, fun x hx => ?_⟩
  · intro a ha b hb hab
    simp at hb
    subst hb; subst hab
    exact he (h.all _ ha)
  · rcases List.mem_append.1 hx with hx | hx
    · exact h1 x (h.all x hx)
    · simp at hx; subst hx; exact h2
theorem Inv.mono {P P' : Int → Prop} {w : List Int} (h : Inv P w) (h1 : ∀ x, P x → P' x) : Inv P' w := ⟨h.nd, fun x hx => h1 x (h.all x hx)⟩
theorem nodupN_len : ∀ {n : Nat} {l : List Nat}, l.Nodup → (∀ x ∈ l, x < n) → l.length ≤ n
  | 0, l, _, hb => by
    cases l with
    | nil => simp
    | cons x r => have := hb x (by simp); omega
  | n + 1, l, h, hb => by
    by_cases hn : n ∈ l
    · have h1 := h.erase n
      have h2 : ∀ x ∈ l.erase n, x < n := fun x hx => by
        have := (h.mem_erase_iff).1 hx
        have := hb x this.2
        omega
      have := nodupN_len h1 h2
      rw [List.length_erase_of_mem hn] at this
      omega
    · have := nodupN_len h (n := n) (fun x hx => by
        have := hb x hx
        have : x ≠ n := fun e => hn (e ▸ hx)
        omega)
      omega
theorem nodupI_len {N : Nat} {w : List Int} (h : w.Nodup) (hb : ∀ x ∈ w, 0 ≤ x ∧ x < (N : Int)) : w.length ≤ N := by
  have h1 : (w.map Int.toNat).Nodup := by
    refine List.pairwise_map.2 (List.Pairwise.imp_of_mem (fun {a b} ha hb' hab => ?_) h)
    have := hb a ha; have := hb b hb'; omega
  have h3 := nodupN_len h1 (n := N) (fun x hx => by
    obtain ⟨y, hy, rfl⟩ := List.mem_map.1 hx
    have := hb y hy
    omega)
  simpa using h3
theorem Inv.len {P : Int → Prop} {w : List Int} {N : Int} (h : Inv P w) (hP : ∀ x, P x → 0 ≤ x ∧ x < N) (hN : 0 ≤ N) : (w.length : Int) ≤ N := by
  have := nodupI_len (N := N.toNat) h.nd (fun x hx => by have := hP x (h.all x hx); omega)
  omega
end Go.Rx
end

section
namespace Go.Rx
open Go.Proofs
def powI (al : Int) : Prop := al = 1 ∨ al = 2 ∨ al = 4 ∨ al = 8 ∨ al = 16 ∨ al = 32 ∨ al = 64 ∨ al = 128
instance (al : Int) : Decidable (powI al) := by unfold powI; infer_instance
def fitOK (n al : Int) : Prop := 0 ≤ n ∧ powI al
instance (n al : Int) : Decidable (fitOK n al) := by unfold fitOK; infer_instance
def clsOf (n : Int) : Int := if n ≤ 1 then 0 else if n ≤ 2 then 1 else if n ≤ 4 then 2 else if n ≤ 8 then 3 else if n ≤ 16 then 4 else -1
def szI (c : Int) : Int := if c = 0 then 1 else if c = 1 then 2 else if c = 2 then 4 else if c = 3 then 8 else if c = 4 then 16 else 0
theorem cOf3 (n : Int) : y2z n = some (clsOf n) := by
  have w1 : IntKind.wrap IntKind.i64 (0 + 1) = 1 := rfl
  have w2 : IntKind.wrap IntKind.i64 (1 + 1) = 2 := rfl
  have w3 : IntKind.wrap IntKind.i64 (2 + 1) = 3 := rfl
  have w4 : IntKind.wrap IntKind.i64 (3 + 1) = 4 := rfl
  unfold y2z clsOf
  simp only [w1, w2, w3, w4, ge_iff_le]
  by_cases h1 : n ≤ 1
  · simp [h1]
  by_cases h2 : n ≤ 2
  · simp [h1, h2]
  by_cases h3 : n ≤ 4
  · simp [h1, h2, h3]
  by_cases h4 : n ≤ 8
  · simp [h1, h2, h3, h4]
  by_cases h5 : n ≤ 16 <;> simp [h1, h2, h3, h4, h5]
theorem rSize3 {c : Int} (h : 0 ≤ c ∧ c < 5) : y0s c = some (szI c) := by
  have : c = 0 ∨ c = 1 ∨ c = 2 ∨ c = 3 ∨ c = 4 := by omega
  rcases this with rfl | rfl | rfl | rfl | rfl <;> exact loopO_of (n := 6) rfl
theorem rSizeN : y0s (-1) = some 0 := rfl
theorem cSize3 {c : Int} (h : 0 ≤ c ∧ c < 5) : y3p c = some (szI c) := by
  have : c = 0 ∨ c = 1 ∨ c = 2 ∨ c = 3 ∨ c = 4 := by omega
  rcases this with rfl | rfl | rfl | rfl | rfl <;> rfl
theorem rOf3 (n : Int) : y2d n = some (clsOf n) := by
  have step : ∀ c : Int, 0 ≤ c ∧ c < 5 → y4y n c = if n ≤ szI c then some (.inr c) else some (.inl (c + 1)) := by
    intro c h
    unfold y4y
    rw [decide_eq_true (show c < 5 by omega), cond_true, rSize3 h, Option.bind_some, wrap_id (by omega) (by omega)]
    by_cases hn : n ≤ szI c <;> simp [hn]
  have last : y4y n 5 = some (.inr (-1)) := rfl
  unfold y2d y81
  have e0 : szI 0 = 1 := rfl
  have e1 : szI 1 = 2 := rfl
  have e2 : szI 2 = 4 := rfl
  have e3 : szI 3 = 8 := rfl
  have e4 : szI 4 = 16 := rfl
  have s0 := step 0 (by omega)
  have s1 := step 1 (by omega)
  have s2 := step 2 (by omega)
  have s3 := step 3 (by omega)
  have s4 := step 4 (by omega)
  rw [e0] at s0; rw [e1] at s1; rw [e2] at s2; rw [e3] at s3; rw [e4] at s4
  unfold clsOf
  by_cases h1 : n ≤ 1
  · rw [if_pos h1] at s0 ⊢; exact loopO_end s0
  rw [if_neg h1] at s0 ⊢
  rw [loopO_go s0]
  by_cases h2 : n ≤ 2
  · rw [if_pos h2] at s1 ⊢; exact loopO_end s1
  rw [if_neg h2] at s1 ⊢
  rw [show (0 : Int) + 1 = 1 from rfl, loopO_go s1]
  by_cases h3 : n ≤ 4
  · rw [if_pos h3] at s2 ⊢; exact loopO_end s2
  rw [if_neg h3] at s2 ⊢
  rw [show (1 : Int) + 1 = 2 from rfl, loopO_go s2]
  by_cases h4 : n ≤ 8
  · rw [if_pos h4] at s3 ⊢; exact loopO_end s3
  rw [if_neg h4] at s3 ⊢
  rw [show (2 : Int) + 1 = 3 from rfl, loopO_go s3]
  by_cases h5 : n ≤ 16
  · rw [if_pos h5] at s4 ⊢; exact loopO_end s4
  rw [if_neg h5] at s4 ⊢
  rw [show (3 : Int) + 1 = 4 from rfl, loopO_go s4, show (4 : Int) + 1 = 5 from rfl]
  exact loopO_end last
theorem cPow (al : Int) : y2i al = some (decide (powI al)) := by
  unfold y2i
  by_cases h : powI al
  · rw [decide_eq_true h]
    rcases h with rfl | rfl | rfl | rfl | rfl | rfl | rfl | rfl <;> rfl
  · rw [decide_eq_false h]
    unfold powI at h
    have e : ∀ k : Int, al ≠ k → (k == al) = false := fun k hk => by simp; exact fun e => hk e.symm
    rw [e 1 (by omega), e 2 (by omega), e 4 (by omega), e 8 (by omega), e 16 (by omega), e 32 (by omega), e 64 (by omega), e 128 (by omega)]; rfl
theorem rPow (al : Int) : y2v al = some (decide (powI al)) := by
  unfold y2v y6s
  by_cases h : powI al
  · rw [decide_eq_true h]
    rcases h with rfl | rfl | rfl | rfl | rfl | rfl | rfl | rfl <;> exact loopO_of (n := 10) rfl
  · rw [decide_eq_false h]
    unfold powI at h
    have go : ∀ p q : Int, p ≤ 128 → p ≠ al → IntKind.wrap IntKind.i64 (p * 2) = q → y55 al p = some (.inl q) := by
      intro p q h1 h2 h3
      unfold y55
      rw [decide_eq_true h1, cond_true, show (p == al) = false by simpa using h2, cond_false, h3]
    rw [loopO_go (go 1 2 (by omega) (by omega) rfl), loopO_go (go 2 4 (by omega) (by omega) rfl), loopO_go (go 4 8 (by omega) (by omega) rfl), loopO_go (go 8 16 (by omega) (by omega) rfl),
      loopO_go (go 16 32 (by omega) (by omega) rfl), loopO_go (go 32 64 (by omega) (by omega) rfl), loopO_go (go 64 128 (by omega) (by omega) rfl), loopO_go (go 128 256 (by omega) (by omega) rfl)]
    exact loopO_end rfl
theorem clsOf_le {n : Int} (h : n ≤ 16) : 0 ≤ clsOf n ∧ clsOf n < 5 := by
  unfold clsOf
  (repeat' split) <;> omega
theorem sz_cls {n : Int} (h : n ≤ 16) : n ≤ szI (clsOf n) ∧ 1 ≤ szI (clsOf n) ∧ szI (clsOf n) ≤ 16 := by
  unfold clsOf
  split
  · rw [show szI 0 = 1 from rfl]; omega
  split
  · rw [show szI 1 = 2 from rfl]; omega
  split
  · rw [show szI 2 = 4 from rfl]; omega
  split
  · rw [show szI 3 = 8 from rfl]; omega
  · rw [show szI 4 = 16 from rfl]; omega
def roundI (n al : Int) : Int := if fitOK n al then (if n ≤ 16 ∧ al ≤ 16 then szI (clsOf (max n al)) else ((max n 1 - 1) / 32 + 1) * 32) else 0
theorem imax (x y : Int) : (if y > x then y else x) = max x y := by rw [Int.max_def]; split <;> split <;> omega
theorem pages_eq' {n : Int} (h : 1 ≤ n ∧ n ≤ 9223372036854775807) : IntKind.wrap IntKind.i64 (IntKind.wrap IntKind.i64 (Int.tdiv (IntKind.wrap IntKind.i64 (n - 1)) 32) + 1) = (n - 1) / 32 + 1 := by
  rw [wrap_id (x := n - 1) (by omega) (by omega), Int.tdiv_eq_ediv_of_nonneg (by omega), wrap_id (x := (n - 1) / 32) (by omega) (by omega), wrap_id (by omega) (by omega)]
theorem cFit_eq (n al : Int) (hn : n ≤ 9223372036854775807) : y1h n al = some (if fitOK n al then (if n ≤ 16 ∧ al ≤ 16 then (clsOf (max n al), 0, 0, 0) else (-1, (max n 1 - 1) / 32 + 1, max 1 (IntKind.wrap IntKind.i64 (Int.tdiv al 32)), 0)) else (0, 0, 0, 2)) := by
  unfold y1h
  rw [cPow, Option.bind_some]
  by_cases h0 : n < 0
  · rw [decide_eq_true h0, cond_true, if_neg (by unfold fitOK; omega)]
  rw [decide_eq_false h0, cond_false]
  by_cases hp : powI al
  · rw [decide_eq_true hp, if_pos (show fitOK n al from ⟨by omega, hp⟩), imax n al]
    by_cases hx : max n al ≤ 16
    · rw [decide_eq_true hx, if_pos (show n ≤ 16 ∧ al ≤ 16 by omega), cOf3]; rfl
    · rw [decide_eq_false hx, if_neg (show ¬ (n ≤ 16 ∧ al ≤ 16) by omega), show (if (1 : Int) > n then (1 : Int) else n) = max n 1 from imax n 1, imax 1]
      unfold y3i
      rw [decide_eq_false (by omega), pages_eq' (by omega)]; rfl
  · rw [decide_eq_false hp, if_neg (show ¬ fitOK n al from fun h => hp h.2)]; rfl
theorem clsOf_mono {a b : Int} (h : a ≤ b) (hb : b ≤ 16) : clsOf a ≤ clsOf b := by
  unfold clsOf
  (repeat' split) <;> omega
theorem rFit_eq (n al : Int) (hn : n ≤ 9223372036854775807) : y1r n al = some (if fitOK n al then (if n ≤ 16 ∧ al ≤ 16 then (clsOf (max n al), 0, 0, 0) else (-1, (max n 1 - 1) / 32 + 1, max 1 (IntKind.wrap IntKind.i64 (Int.tdiv al 32)), 0)) else (0, 0, 0, 2)) := by
  unfold y1r
  rw [rPow, Option.bind_some]
  have hpg : y2f (max n 1) = some ((max n 1 - 1) / 32 + 1) := by
    unfold y2f
    rw [decide_eq_false (by omega), pages_eq' (by omega)]; rfl
  by_cases h0 : n < 0
  · rw [decide_eq_true h0, cond_true, if_neg (by unfold fitOK; omega)]
  rw [decide_eq_false h0, cond_false]
  by_cases hp : powI al
  · rw [decide_eq_true hp, if_pos (show fitOK n al from ⟨by omega, hp⟩)]
    rw [show (if (1 : Int) > n then (1 : Int) else n) = max n 1 from imax n 1, imax 1]
    by_cases h1 : n ≤ 16
    · by_cases h2 : al ≤ 16
      · rw [decide_eq_true h1, decide_eq_true h2, if_pos ⟨h1, h2⟩, rOf3, rOf3, Option.bind_some, Option.bind_some, imax]
        have : max (clsOf n) (clsOf al) = clsOf (max n al) := by
          rcases Int.le_total n al with h | h
          · rw [Int.max_eq_right h, Int.max_eq_right (clsOf_mono h h2)]
          · rw [Int.max_eq_left h, Int.max_eq_left (clsOf_mono h h1)]
        rw [this]; rfl
      · rw [decide_eq_true h1, decide_eq_false h2, if_neg (fun h => h2 h.2), hpg]; rfl
    · rw [decide_eq_false h1, if_neg (fun h => h1 h.1), hpg]; rfl
  · rw [decide_eq_false hp, if_neg (show ¬ fitOK n al from fun h => hp h.2)]; rfl
theorem cRound_eq (n al : Int) (hn : n ≤ 1048576) : y2r n al = some (roundI n al, if fitOK n al then 0 else 2) := by
  unfold y2r roundI
  rw [cFit_eq _ _ (by omega), Option.bind_some]
  by_cases h : fitOK n al
  · rw [if_pos h, if_pos h, if_pos h]
    by_cases h1 : n ≤ 16 ∧ al ≤ 16
    · have hc := clsOf_le (n := max n al) (by omega)
      rw [if_pos h1, if_pos h1]
      simp only [bne_self_eq_false, cond_false]
      rw [show (clsOf (max n al) != -1) = true by simp; omega, cond_true, cSize3 hc]; rfl
    · rw [if_neg h1, if_neg h1]
      simp only [bne_self_eq_false, cond_false]
      have := h.1
      rw [wrap_id (by omega) (by omega)]
  · rw [if_neg h, if_neg h, if_neg h]; rfl
theorem rRound_eq (n al : Int) (hn : n ≤ 1048576) : y36 n al = some (roundI n al, if fitOK n al then 0 else 2) := by
  unfold y36 roundI
  rw [rFit_eq _ _ (by omega), Option.bind_some]
  by_cases h : fitOK n al
  · rw [if_pos h, if_pos h, if_pos h]
    by_cases h1 : n ≤ 16 ∧ al ≤ 16
    · have hc := clsOf_le (n := max n al) (by omega)
      have hs := sz_cls (n := max n al) (by omega)
      rw [if_pos h1, if_pos h1]
      simp only [bne_self_eq_false, cond_false]
      rw [rSize3 hc, Option.bind_some, show IntKind.wrap IntKind.i64 (32 * 0) = 0 from rfl, Int.add_zero, wrap_id (by omega) (by omega)]
    · rw [if_neg h1, if_neg h1]
      simp only [bne_self_eq_false, cond_false]
      have := h.1
      rw [rSizeN, Option.bind_some, wrap_id (x := 32 * _) (by omega) (by omega), Int.zero_add, wrap_id (by omega) (by omega), Int.mul_comm]
  · rw [if_neg h, if_neg h, if_neg h]; rfl
theorem roundI_le {n al : Int} (h : fitOK n al) (hn : n ≤ 1048576) : n ≤ roundI n al ∧ 1 ≤ roundI n al ∧ roundI n al ≤ 1048640 := by
  unfold roundI
  have := h.1
  rw [if_pos h]
  split
  · have hs := sz_cls (n := max n al) (by omega)
    omega
  · omega
def rndI (n al : Int) : Int := if n > 1048576 then 0 else roundI n al
def alI (c : yc) : Int := if c.Kind = 5 then c.Align else 1
def sized (c : yc) : Prop := c.Kind = 1 ∨ c.Kind = 3 ∨ c.Kind = 4 ∨ c.Kind = 5
instance (c : yc) : Decidable (sized c) := by unfold sized; infer_instance
def askP (c : yc) : Prop := (1 ≤ c.Kind ∧ c.Kind ≤ 12) ∧ (sized c → fitOK c.Size (alI c))
instance (c : yc) : Decidable (askP c) := by unfold askP; infer_instance
def askI (c : yc) : Int := if askP c then 0 else 2
theorem cal_eq (c : yc) : y1v c = some (alI c) := by
  unfold y1v alI
  by_cases h : c.Kind = 5
  · simp [h]
  · rw [show (c.Kind == 5) = false by simpa using h, if_neg h]; rfl
theorem ral_eq (c : yc) : y2l c = some (alI c) := by
  unfold y2l alI
  by_cases h : c.Kind = 5
  · simp [h]
  · rw [show (c.Kind == 5) = false by simpa using h, if_neg h]; rfl
theorem fit4 (n al : Int) : (if fitOK n al then (if n ≤ 16 ∧ al ≤ 16 then ((clsOf (max n al), 0, 0, 0) : Int × Int × Int × Int) else (-1, (max n 1 - 1) / 32 + 1, max 1 (IntKind.wrap IntKind.i64 (Int.tdiv al 32)), 0)) else (0, 0, 0, 2)).2.2.2 = if fitOK n al then 0 else 2 := by
  split
  · split <;> rfl
  · rfl
theorem cAsks_eq (c : yc) (hn : c.Size ≤ 9223372036854775807) : y22 c = some (askI c) := by
  unfold y22 askI
  have hs : ∀ h : sized c, (if fitOK c.Size (alI c) then (0 : Int) else 2) = if askP c then 0 else 2 := by
    intro h
    have hk : 1 ≤ c.Kind ∧ c.Kind ≤ 12 := by unfold sized at h; omega
    by_cases hf : fitOK c.Size (alI c)
    · rw [if_pos hf, if_pos ⟨hk, fun _ => hf⟩]
    · rw [if_neg hf, if_neg (fun h' => hf (h'.2 h))]
  have hb : (y1v c).bind (fun y => (y1h c.Size y).bind fun z => some (Prod.snd (Prod.snd (Prod.snd z)))) = some (if fitOK c.Size (alI c) then (0 : Int) else 2) := by
    rw [cal_eq, Option.bind_some, cFit_eq _ _ hn, Option.bind_some, fit4]
  rw [hb]
  by_cases h : sized c
  · rw [hs h]
    rcases h with h | h | h | h <;> simp [h]
  · unfold sized at h
    have e : ∀ k : Int, c.Kind ≠ k → (c.Kind == k) = false := fun k hk => by simpa using hk
    rw [e 1 (by omega), e 3 (by omega), e 4 (by omega), e 5 (by omega)]
    simp only [cond_false]
    by_cases hk : 1 ≤ c.Kind ∧ c.Kind ≤ 12
    · rw [if_pos ⟨hk, fun h' => absurd h' (by unfold sized; omega)⟩]
      have : c.Kind = 2 ∨ c.Kind = 6 ∨ c.Kind = 7 ∨ c.Kind = 8 ∨ c.Kind = 9 ∨ c.Kind = 10 ∨ c.Kind = 11 ∨ c.Kind = 12 := by omega
      rcases this with h | h | h | h | h | h | h | h <;> simp [h]
    · rw [if_neg (fun h' => hk h'.1), e 2 (by omega), e 6 (by omega), e 7 (by omega), e 8 (by omega), e 9 (by omega), e 10 (by omega), e 11 (by omega), e 12 (by omega)]; rfl
theorem rAsks_eq (c : yc) (hn : c.Size ≤ 9223372036854775807) : y2b c = some (askI c) := by
  unfold y2b askI
  have hsz : y33 c.Kind = some (decide (sized c)) := by
    unfold y33 sized
    by_cases h1 : c.Kind = 1
    · simp [h1]
    by_cases h2 : c.Kind = 3
    · simp [h2]
    by_cases h3 : c.Kind = 4
    · simp [h3]
    have e : ∀ k : Int, c.Kind ≠ k → (c.Kind == k) = false := fun k hk => by simpa using hk
    rw [e 1 h1, e 3 h2, e 4 h3]
    by_cases h4 : c.Kind = 5 <;> simp [h1, h2, h3, h4]
  by_cases h1 : c.Kind < 1
  · rw [decide_eq_true h1, if_neg (fun h => by have := h.1; omega)]; rfl
  by_cases h2 : c.Kind > 12
  · rw [decide_eq_false h1, decide_eq_true h2, if_neg (fun h => by have := h.1; omega)]; rfl
  rw [decide_eq_false h1, decide_eq_false h2, ral_eq, Option.bind_some, rFit_eq _ _ hn, Option.bind_some, fit4, hsz, Option.bind_some]
  simp only [cond_false]
  by_cases h : sized c
  · rw [decide_eq_true h, cond_true]
    by_cases hf : fitOK c.Size (alI c)
    · rw [if_pos hf, if_pos ⟨by omega, fun _ => hf⟩]; rfl
    · rw [if_neg hf, if_neg (fun h' => hf (h'.2 h))]; rfl
  · rw [decide_eq_false h, if_pos (show askP c from ⟨by omega, fun h' => absurd h' h⟩)]; rfl
def mn2 (x y : Int) : Int := if y < x then y else x
def mn7 (s : ya) : Int := mn2 (mn2 (mn2 (mn2 (mn2 (mn2 s.Blocks s.Asked) s.Words) s.Kept) s.Open) s.Mapped) s.Used
theorem mn2_ge {x y : Int} : (0 ≤ mn2 x y) ↔ 0 ≤ x ∧ 0 ≤ y := by unfold mn2; split <;> omega
theorem mn7_ge {s : ya} : 0 ≤ mn7 s ↔ ((((((0 ≤ s.Blocks ∧ 0 ≤ s.Asked) ∧ 0 ≤ s.Words) ∧ 0 ≤ s.Kept) ∧ 0 ≤ s.Open) ∧ 0 ≤ s.Mapped) ∧ 0 ≤ s.Used) := by
  unfold mn7; simp only [mn2_ge]
def statB (s : ya) : Prop := (s.Blocks ≤ 9223372036854775807 ∧ s.Asked ≤ 9223372036854775807) ∧ (s.Words ≤ 9223372036854775807 ∧ s.Kept ≤ 9223372036854775807) ∧ s.Open ≤ 9223372036854775807
theorem tR_form (s : ya) : y27 s = (bif decide (mn7 s < 0) then some false else bif decide ((if s.Kept > s.Words then s.Kept else s.Words) > 35184372088832) then some false else bif decide (s.Used > 1099511627776) then some false else
    bif decide (s.Asked > s.Words) then some false else bif decide (s.Blocks > s.Words) then some false else bif decide (s.Used > s.Mapped) then some false else
      some (IntKind.wrap IntKind.i64 (s.Words + s.Kept) == IntKind.wrap IntKind.i64 (IntKind.wrap IntKind.i64 (s.Used * 32) - s.Open))) := by
  unfold y27 mn7 mn2; rfl
theorem rR_form (s : ya) : y2g s = (bif decide (mn7 s < 0) then some false else bif decide (s.Asked > s.Words) then some false else bif decide (s.Blocks > s.Words) then some false else bif decide (s.Used > s.Mapped) then some false else
    bif decide (s.Used > 1099511627776) then some false else bif decide (s.Words > 35184372088832) then some false else bif decide (s.Kept > 35184372088832) then some false else
      some (s.Open == IntKind.wrap IntKind.i64 (IntKind.wrap IntKind.i64 (IntKind.wrap IntKind.i64 (32 * s.Used) - s.Words) - s.Kept))) := by
  unfold y2g mn7 mn2; rfl
theorem Right_eq (s : ya) (h : statB s) : ∃ b, y27 s = some b ∧ y2g s = some b := by
  obtain ⟨⟨h1, h2⟩, ⟨h3, h4⟩, h5⟩ := h
  rw [tR_form, rR_form]
  by_cases hn : mn7 s < 0
  · rw [decide_eq_true hn]; exact ⟨false, rfl, rfl⟩
  rw [decide_eq_false hn]
  obtain ⟨⟨⟨⟨⟨⟨p1, p2⟩, p3⟩, p4⟩, p5⟩, p6⟩, p7⟩ := mn7_ge.1 (by omega : 0 ≤ mn7 s)
  simp only [cond_false]
  by_cases a1 : s.Asked > s.Words
  · rw [decide_eq_true a1]
    refine ⟨false, ?_, rfl⟩
    cases decide ((if s.Kept > s.Words then s.Kept else s.Words) > 35184372088832) <;> cases decide (s.Used > 1099511627776) <;> rfl
  by_cases a2 : s.Blocks > s.Words
  · rw [decide_eq_true a2, decide_eq_false a1]
    refine ⟨false, ?_, rfl⟩
    cases decide ((if s.Kept > s.Words then s.Kept else s.Words) > 35184372088832) <;> cases decide (s.Used > 1099511627776) <;> rfl
  by_cases a3 : s.Used > s.Mapped
  · rw [decide_eq_true a3, decide_eq_false a1, decide_eq_false a2]
    refine ⟨false, ?_, rfl⟩
    cases decide ((if s.Kept > s.Words then s.Kept else s.Words) > 35184372088832) <;> cases decide (s.Used > 1099511627776) <;> rfl
  rw [decide_eq_false a1, decide_eq_false a2, decide_eq_false a3]
  simp only [cond_false]
  by_cases a4 : s.Used > 1099511627776
  · rw [decide_eq_true a4]
    refine ⟨false, ?_, rfl⟩
    cases decide ((if s.Kept > s.Words then s.Kept else s.Words) > 35184372088832) <;> rfl
  rw [decide_eq_false a4]
  simp only [cond_false]
  by_cases a5 : (if s.Kept > s.Words then s.Kept else s.Words) > 35184372088832
  · rw [decide_eq_true a5]
    refine ⟨false, rfl, ?_⟩
    by_cases a6 : s.Words > 35184372088832
    · rw [decide_eq_true a6]; rfl
    · rw [decide_eq_false a6]
      have : s.Kept > 35184372088832 := by split at a5 <;> omega
      rw [decide_eq_true this]; rfl
  rw [decide_eq_false a5]
  have b1 : ¬ s.Words > 35184372088832 := by split at a5 <;> omega
  have b2 : ¬ s.Kept > 35184372088832 := by split at a5 <;> omega
  rw [decide_eq_false b1, decide_eq_false b2]
  simp only [cond_false]
  rw [wrap_id (x := s.Words + s.Kept) (by omega) (by omega), wrap_id (x := s.Used * 32) (by omega) (by omega), wrap_id (x := s.Used * 32 - s.Open) (by omega) (by omega),
    wrap_id (x := 32 * s.Used) (by omega) (by omega), wrap_id (x := 32 * s.Used - s.Words) (by omega) (by omega), wrap_id (x := 32 * s.Used - s.Words - s.Kept) (by omega) (by omega)]
  refine ⟨_, rfl, ?_⟩
  congr 1
  rw [Bool.eq_iff_iff, beq_iff_eq, beq_iff_eq]
  constructor <;> intro h <;> omega
end Go.Rx
end

noncomputable section
namespace Go.Rx
open Go.Proofs
set_option maxRecDepth 100000
set_option maxHeartbeats 4000000
def y8r (m_ : Int → (List (List Int)) → Option (Int × Bool)) (args : List V) (H : Heap) (K : V → Heap → Prop) : Prop :=
  aC args fun a0 r => aC r fun a1 r => aN r <| aPtr 0 a0 <| aInt a1 fun k => aC H fun b0 r => aC r fun b1 r => aN r <| bRCells b0 fun c0 => aC c0 fun d0_0 r => aRow 1 d0_0 <| aN r <| bRow 70 true b1 fun (yd : List (List Int)) => So (m_ k yd) fun x => K (.tup [vi x.1, vb x.2]) [.rcells [.row 1], .row 70 yd true]
def y5c (m_ : Int → (List (List Int)) → Option (Int × Bool)) : Spec := ⟨y8r m_, (⟨true, fun i => false, fun i => Nat.beq i 0⟩ : RO)⟩
def y7j (m_ : Int → yi → (List (List Int)) → Option (Bool × (List (List Int)))) (args : List V) (H : Heap) (K : V → Heap → Prop) : Prop :=
  aC args fun a0 r => aC r fun a1 r => aC r fun a2 r => aN r <| aPtr 0 a0 <| aInt a1 fun k => aAgg a2 fun c2 => y3w c2 fun v => aC H fun b0 r => aC r fun b1 r => aN r <| bCells b0 fun U c0 => aC c0 fun d0_0 r => aRow 1 d0_0 <| aN r <| bRow 70 false b1 fun (yd : List (List Int)) => So (m_ k v yd) fun x => K (vb x.1) [.cells U [.row 2], .dead, .row 70 x.2 false]
def y75 (m_ : Int → yi → (List (List Int)) → Option (Bool × (List (List Int)))) : Spec := ⟨y7j m_, (⟨true, fun i => Nat.beq i 1, fun _ => false⟩ : RO)⟩
def y6f (m_ : Int → (List (List Int)) → Option (yi × Bool)) (args : List V) (H : Heap) (K : V → Heap → Prop) : Prop :=
  aC args fun a0 r => aC r fun a1 r => aN r <| aPtr 0 a0 <| aInt a1 fun k => aC H fun b0 r => aC r fun b1 r => aN r <| bRCells b0 fun c0 => aC c0 fun d0_0 r => aRow 1 d0_0 <| aN r <| bRow 70 true b1 fun (yd : List (List Int)) => So (m_ k yd) fun x => K (.tup [.agg (y1t x.1), vb x.2]) [.rcells [.row 1], .row 70 yd true]
def y5g (m_ : Int → (List (List Int)) → Option (yi × Bool)) : Spec := ⟨y6f m_, (⟨true, fun i => false, fun i => Nat.beq i 0⟩ : RO)⟩
def y9m (m_ : Int → (List (List Int)) → Option (Bool × (List (List Int)))) (args : List V) (H : Heap) (K : V → Heap → Prop) : Prop :=
  aC args fun a0 r => aC r fun a1 r => aN r <| aPtr 0 a0 <| aInt a1 fun k => aC H fun b0 r => aC r fun b1 r => aN r <| bCells b0 fun U c0 => aC c0 fun d0_0 r => aRow 1 d0_0 <| aN r <| bRow 70 false b1 fun (yd : List (List Int)) => So (m_ k yd) fun x => K (vb x.1) [.cells U [.row 2], .dead, .row 70 x.2 false]
def y8b (m_ : Int → (List (List Int)) → Option (Bool × (List (List Int)))) : Spec := ⟨y9m m_, (⟨true, fun i => Nat.beq i 1, fun _ => false⟩ : RO)⟩
def y9s (m_ : (List (List Int)) → Option Int) (args : List V) (H : Heap) (K : V → Heap → Prop) : Prop :=
  aC args fun a0 r => aN r <| aPtr 0 a0 <| aC H fun b0 r => aC r fun b1 r => aN r <| bRCells b0 fun c0 => aC c0 fun d0_0 r => aRow 1 d0_0 <| aN r <| bRow 70 true b1 fun (yd : List (List Int)) => So (m_ yd) fun x => K (vi x) [.rcells [.row 1], .row 70 yd true]
def y49 (m_ : (List (List Int)) → Option Int) : Spec := ⟨y9s m_, (⟨true, fun i => false, fun i => Nat.beq i 0⟩ : RO)⟩
def y9q (m_ : Int → (List (List Int)) → Option (Int × yi × Bool)) (args : List V) (H : Heap) (K : V → Heap → Prop) : Prop :=
  aC args fun a0 r => aC r fun a1 r => aN r <| aPtr 0 a0 <| aInt a1 fun iv => aC H fun b0 r => aC r fun b1 r => aN r <| bRCells b0 fun c0 => aC c0 fun d0_0 r => aRow 1 d0_0 <| aN r <| bRow 70 true b1 fun (yd : List (List Int)) => So (m_ iv yd) fun x => K (.tup [vi x.1, .agg (y1t x.2.1), vb x.2.2]) [.rcells [.row 1], .row 70 yd true]
def y96 (m_ : Int → (List (List Int)) → Option (Int × yi × Bool)) : Spec := ⟨y9q m_, (⟨true, fun i => false, fun i => Nat.beq i 0⟩ : RO)⟩
def y3k  : Cfg := { cfgB with
  sigs := sigN,
  keep := fun r => match r with | 2 => some [(0, none), (1, none), (6, none), (7, none)] | _ => none,
  plan := fun r => match r with | 1 => some (List.range 7, 0) | 7 => some (List.range 22, 0) | _ => none }
def wk_sorted_Map_model_block_Put : List WK := [⟨false, 0, [], 0, 70, false⟩]
def yal (y1d : Int → (List (List Int)) → Option (Int × Bool)) : Cfg := { cfgB with
  sigs := (sigC 99 (y5c y1d) sigN),
  plan := fun r => match r with | 5 => some (List.range 9, 19791209299984) | 8 => some (List.range 14, 30786325577744) | 9 => some (List.range 10, 21990232555536) | _ => none }
def ydq (y1d : Int → (List (List Int)) → Option (Int × Bool)) : Cfg := { cfgB with
  sigs := (sigC 99 (y5c y1d) sigN) }
def wk_sorted_Map_model_block_Cut : List WK := [⟨false, 0, [], 0, 70, false⟩]
def yb1 (y1d : Int → (List (List Int)) → Option (Int × Bool)) : Cfg := { cfgB with
  sigs := (sigC 99 (y5c y1d) sigN),
  plan := fun r => match r with | 6 => some (List.range 18, 39582418599937) | _ => none }
def yd7  : Cfg := { cfgB with
  sigs := sigN }
def ycf (yu : (List (List Int)) → Option Int) : Cfg := { cfgB with
  sigs := (sigC 55 (y49 yu) sigN),
  plan := fun r => match r with | 3 => some (List.range 4, 80) | 4 => some (List.range 19, 80) | _ => none,
  flag := fun d => Nat.beq d 5 }
theorem yij (k : Int) (yd : List (List Int)) (low high : Int) (K : V → Heap → Prop) (J1 : Env → Heap → Prop) : (ex y3k (⟨56, 2⟩ : Cx) (at_ (bodyOf Try.f99) [1, 1, 0, 0, 0]) (mkEnv [(0, .ptr 0 0), (1, vi k), (6, vi low), (7, vi high)]) [.rcells [.row 1], .row 70 yd true] (roundK y3k (⟨56, 2⟩ : Cx) (at_ (bodyOf Try.f99) [1, 1, 0, 0, 0]) (contK y3k (⟨56, 2⟩ : Cx) (bodyOf Try.f99) [1, 1, 0, 0] (retK y3k Try.f99 2 K)) J1)) = (
    br (decide (low < high)) (Req (inR (IntKind.i64.wrap (low + IntKind.i64.wrap (Int.tdiv (IntKind.i64.wrap (high - low)) 2))) yd.length) (Req (inR (offs (IntKind.i64.wrap (low + IntKind.i64.wrap (Int.tdiv (IntKind.i64.wrap (high - low)) 2))) 0) yd.length) (br (decide (List.getD (yd.getD (Int.toNat (offs (IntKind.i64.wrap (low + IntKind.i64.wrap (Int.tdiv (IntKind.i64.wrap (high - low)) (2 : Int)))) (0 : Nat))) (List.replicate (3 : Nat) (0 : Int))) (0 : Nat) (0 : Int) < k)) (J1 (mkEnv [(0, .ptr 0 0), (1, vi k), (6, vi (IntKind.i64.wrap (IntKind.i64.wrap (low + IntKind.i64.wrap (Int.tdiv (IntKind.i64.wrap (high - low)) 2)) + 1))), (7, vi high)]) [.rcells [.row 1], .row 70 yd true]) (J1 (mkEnv [(0, .ptr 0 0), (1, vi k), (6, vi low), (7, vi (IntKind.i64.wrap (low + IntKind.i64.wrap (Int.tdiv (IntKind.i64.wrap (high - low)) 2))))]) [.rcells [.row 1], .row 70 yd true])))) (br (decide (low < (↑yd.length : Int))) (Req (inR low yd.length) (Req (inR (offs low 0) yd.length) (K (.tup [vi low, vb (List.getD (yd.getD (Int.toNat (offs low (0 : Nat))) (List.replicate (3 : Nat) (0 : Int))) (0 : Nat) (0 : Int) == k)]) [.rcells [.row 1], .row 70 yd true]))) (K (.tup [vi low, vb false]) [.rcells [.row 1], .row 70 yd true]))) := by kernel_rfl
theorem yiy (k : Int) (yd : List (List Int)) (K : V → Heap → Prop) : (exF y3k Try.f99 [.ptr 0 0, vi k] [.rcells [.row 1], .row 70 yd true] K) = (
    Loop y3k (⟨56, 2⟩ : Cx) (at_ (bodyOf Try.f99) [1, 1, 0, 0, 0]) (mkEnv [(0, .ptr 0 0), (1, vi k), (6, vi 0), (7, vi (↑yd.length : Int))]) [.rcells [.row 1], .row 70 yd true] (contK y3k (⟨56, 2⟩ : Cx) (bodyOf Try.f99) [1, 1, 0, 0] (retK y3k Try.f99 2 K))) := by kernel_rfl
theorem yir (y1d : Int → (List (List Int)) → Option (Int × Bool)) (k : Int) (v : yi) (yd : List (List Int)) (U : TypeId) (K : V → Heap → Prop) : (exFW (yal y1d) [] wk_sorted_Map_model_block_Put Try.f74 [.ptr 0 0, vi k, .agg (y1t v)] [.cells U [.row 1], .row 70 yd false] K) = (
    So (y1d k yd) (fun (y0 : Int × Bool) => (br y0.2 (Req (inR y0.1 yd.length) (Req (inR (offs y0.1 0) yd.length) (K (vb false) [.cells U [.row 2], .dead, .row 70 (List.set yd (Int.toNat (offs y0.1 (0 : Nat))) [List.getD (yd.getD (Int.toNat (offs y0.1 (0 : Nat))) (List.replicate (3 : Nat) (0 : Int))) (0 : Nat) (0 : Int), v.asked, v.words] : List (List Int)) false]))) (Req (decide (yd.length + 1 ≤ 1048576)) (Req (decide (0 ≤ IntKind.i64.wrap (y0.1 + 1) ∧ IntKind.i64.wrap (y0.1 + 1) ≤ (↑(List.length (yd ++ [[0, 0, 0]])) : Int))) (Req (decide (0 ≤ y0.1 ∧ y0.1 ≤ (↑(List.length (yd ++ [[0, 0, 0]])) : Int))) (Req (decide (Int.toNat y0.1 + (List.length (yd ++ [[0, 0, 0]]) - Int.toNat y0.1) ≤ List.length (yd ++ [[0, 0, 0]]))) (Req (decide (Int.toNat (IntKind.i64.wrap (y0.1 + 1)) + (List.length (yd ++ [[0, 0, 0]]) - Int.toNat (IntKind.i64.wrap (y0.1 + 1))) ≤ List.length (yd ++ [[0, 0, 0]]))) (Req (inR y0.1 (List.length (List.take (Int.toNat (IntKind.i64.wrap (y0.1 + 1))) (yd ++ [[0, 0, 0]]) ++ (List.take (Min.min (List.length (yd ++ [[0, 0, 0]]) - Int.toNat (IntKind.i64.wrap (y0.1 + 1))) (List.length (List.take (List.length (yd ++ [[0, 0, 0]]) - Int.toNat y0.1) (List.drop (Int.toNat y0.1) (yd ++ [[0, 0, 0]]))))) (List.take (List.length (yd ++ [[0, 0, 0]]) - Int.toNat y0.1) (List.drop (Int.toNat y0.1) (yd ++ [[0, 0, 0]]))) ++ List.drop (Int.toNat (IntKind.i64.wrap (y0.1 + 1)) + Min.min (List.length (yd ++ [[0, 0, 0]]) - Int.toNat (IntKind.i64.wrap (y0.1 + 1))) (List.length (List.take (List.length (yd ++ [[0, 0, 0]]) - Int.toNat y0.1) (List.drop (Int.toNat y0.1) (yd ++ [[0, 0, 0]]))))) (yd ++ [[0, 0, 0]]))))) (Req (inR (offs y0.1 0) (List.length (List.take (Int.toNat (IntKind.i64.wrap (y0.1 + 1))) (yd ++ [[0, 0, 0]]) ++ (List.take (Min.min (List.length (yd ++ [[0, 0, 0]]) - Int.toNat (IntKind.i64.wrap (y0.1 + 1))) (List.length (List.take (List.length (yd ++ [[0, 0, 0]]) - Int.toNat y0.1) (List.drop (Int.toNat y0.1) (yd ++ [[0, 0, 0]]))))) (List.take (List.length (yd ++ [[0, 0, 0]]) - Int.toNat y0.1) (List.drop (Int.toNat y0.1) (yd ++ [[0, 0, 0]]))) ++ List.drop (Int.toNat (IntKind.i64.wrap (y0.1 + 1)) + Min.min (List.length (yd ++ [[0, 0, 0]]) - Int.toNat (IntKind.i64.wrap (y0.1 + 1))) (List.length (List.take (List.length (yd ++ [[0, 0, 0]]) - Int.toNat y0.1) (List.drop (Int.toNat y0.1) (yd ++ [[0, 0, 0]]))))) (yd ++ [[0, 0, 0]]))))) (K (vb true) [.cells U [.row 2], .dead, .row 70 (List.set (List.take (Int.toNat (IntKind.i64.wrap (y0.1 + 1))) (yd ++ [[0, 0, 0]]) ++ (List.take (Min.min (List.length (yd ++ [[0, 0, 0]]) - Int.toNat (IntKind.i64.wrap (y0.1 + 1))) (List.length (List.take (List.length (yd ++ [[0, 0, 0]]) - Int.toNat y0.1) (List.drop (Int.toNat y0.1) (yd ++ [[0, 0, 0]]))))) (List.take (List.length (yd ++ [[0, 0, 0]]) - Int.toNat y0.1) (List.drop (Int.toNat y0.1) (yd ++ [[0, 0, 0]]))) ++ List.drop (Int.toNat (IntKind.i64.wrap (y0.1 + 1)) + Min.min (List.length (yd ++ [[0, 0, 0]]) - Int.toNat (IntKind.i64.wrap (y0.1 + 1))) (List.length (List.take (List.length (yd ++ [[0, 0, 0]]) - Int.toNat y0.1) (List.drop (Int.toNat y0.1) (yd ++ [[0, 0, 0]]))))) (yd ++ [[0, 0, 0]]))) (offs y0.1 0).toNat [k, v.asked, v.words] : List (List Int)) false]))))))))))) := by kernel_rfl
theorem yj3 (y1d : Int → (List (List Int)) → Option (Int × Bool)) (k : Int) (yd : List (List Int)) (K : V → Heap → Prop) : (exF (ydq y1d) Try.f75 [.ptr 0 0, vi k] [.rcells [.row 1], .row 70 yd true] K) = (
    So (y1d k yd) (fun (y0 : Int × Bool) => (br (!y0.2) (K (.tup [.agg [vi 0, vi 0], vb false]) [.rcells [.row 1], .row 70 yd true]) (Req (inR y0.1 yd.length) (Req (inR (offs y0.1 0) yd.length) (K (.tup [.agg [vi (List.getD (yd.getD (Int.toNat (offs y0.1 (0 : Nat))) (List.replicate (3 : Nat) (0 : Int))) (1 : Nat) (0 : Int)), vi (List.getD (yd.getD (Int.toNat (offs y0.1 (0 : Nat))) (List.replicate (3 : Nat) (0 : Int))) (2 : Nat) (0 : Int))], vb true]) [.rcells [.row 1], .row 70 yd true])))))) := by kernel_rfl
theorem yf8 (y1d : Int → (List (List Int)) → Option (Int × Bool)) (k : Int) (yd : List (List Int)) (U : TypeId) (K : V → Heap → Prop) : (exFW (yb1 y1d) [] wk_sorted_Map_model_block_Cut Try.f78 [.ptr 0 0, vi k] [.cells U [.row 1], .row 70 yd false] K) = (
    So (y1d k yd) (fun (y0 : Int × Bool) => (br (!y0.2) (K (vb false) [.cells U [.row 2], .dead, .row 70 yd false]) (Req (decide (0 ≤ y0.1 ∧ y0.1 ≤ (↑yd.length : Int))) (Req (decide (0 ≤ IntKind.i64.wrap (y0.1 + 1) ∧ IntKind.i64.wrap (y0.1 + 1) ≤ (↑yd.length : Int))) (Req (decide (Int.toNat y0.1 ≤ yd.length)) (Req (decide (Int.toNat (IntKind.i64.wrap (y0.1 + 1)) + (yd.length - Int.toNat (IntKind.i64.wrap (y0.1 + 1))) ≤ yd.length)) (Req (decide (List.length (List.take (Int.toNat y0.1) yd) + List.length (List.take (yd.length - Int.toNat (IntKind.i64.wrap (y0.1 + 1))) (List.drop (Int.toNat (IntKind.i64.wrap (y0.1 + 1))) yd)) ≤ 1048576)) (K (vb true) [.cells U [.row 2], .dead, .row 70 (List.take (Int.toNat y0.1) yd ++ List.take (yd.length - Int.toNat (IntKind.i64.wrap (y0.1 + 1))) (List.drop (Int.toNat (IntKind.i64.wrap (y0.1 + 1))) yd) : List (List Int)) false]))))))))) := by kernel_rfl
theorem yih (yd : List (List Int)) (K : V → Heap → Prop) : (exF yd7 Try.f55 [.ptr 0 0] [.rcells [.row 1], .row 70 yd true] K) = (
    K (vi (↑yd.length : Int)) [.rcells [.row 1], .row 70 yd true]) := by kernel_rfl
theorem yey (yu : (List (List Int)) → Option Int) (iv : Int) (yd : List (List Int)) (K : V → Heap → Prop) : (exF (ycf yu) Try.f56 [.ptr 0 0, vi iv] [.rcells [.row 1], .row 70 yd true] K) = (
    br (decide (iv < 0)) (K (.tup [vi 0, .agg [vi 0, vi 0], vb false]) [.rcells [.row 1], .row 70 yd true]) (So (yu yd) (fun (y0 : Int) => (br (decide (iv ≥ y0)) (K (.tup [vi 0, .agg [vi 0, vi 0], vb false]) [.rcells [.row 1], .row 70 yd true]) (Req (inR iv yd.length) (Req (inR (offs iv 0) yd.length) (Req (inR iv yd.length) (Req (inR (offs iv 0) yd.length) (K (.tup [vi (List.getD (yd.getD (Int.toNat (offs iv (0 : Nat))) (List.replicate (3 : Nat) (0 : Int))) (0 : Nat) (0 : Int)), .agg [vi (List.getD (yd.getD (Int.toNat (offs iv (0 : Nat))) (List.replicate (3 : Nat) (0 : Int))) (1 : Nat) (0 : Int)), vi (List.getD (yd.getD (Int.toNat (offs iv (0 : Nat))) (List.replicate (3 : Nat) (0 : Int))) (2 : Nat) (0 : Int))], vb true]) [.rcells [.row 1], .row 70 yd true]))))))))) := by kernel_rfl
def y4v (k : Int) (yd : List (List Int)) (low high : Int) : Option ((Int × Int) ⊕ (Int × Bool)) :=
  (bif (decide (low < high)) then (bif (inR (IntKind.i64.wrap (low + IntKind.i64.wrap (Int.tdiv (IntKind.i64.wrap (high - low)) 2))) yd.length) then (bif (inR (offs (IntKind.i64.wrap (low + IntKind.i64.wrap (Int.tdiv (IntKind.i64.wrap (high - low)) 2))) 0) yd.length) then (bif (decide (List.getD (yd.getD (Int.toNat (offs (IntKind.i64.wrap (low + IntKind.i64.wrap (Int.tdiv (IntKind.i64.wrap (high - low)) (2 : Int)))) (0 : Nat))) (List.replicate (3 : Nat) (0 : Int))) (0 : Nat) (0 : Int) < k)) then some (.inl ((IntKind.i64.wrap (IntKind.i64.wrap (low + IntKind.i64.wrap (Int.tdiv (IntKind.i64.wrap (high - low)) 2)) + 1)), high)) else some (.inl (low, (IntKind.i64.wrap (low + IntKind.i64.wrap (Int.tdiv (IntKind.i64.wrap (high - low)) 2)))))) else none) else none) else (bif (decide (low < (↑yd.length : Int))) then (bif (inR low yd.length) then (bif (inR (offs low 0) yd.length) then some (.inr (low, (List.getD (yd.getD (Int.toNat (offs low (0 : Nat))) (List.replicate (3 : Nat) (0 : Int))) (0 : Nat) (0 : Int) == k))) else none) else none) else some (.inr (low, false))))
def y5o (k : Int) (yd : List (List Int)) (s : Int × Int) : Option (Int × Bool) :=
  loopO (fun s => y4v k yd s.1 s.2) s
def y1d (k : Int) (yd : List (List Int)) : Option (Int × Bool) :=
  (y5o k yd (0, (↑yd.length : Int)))
def yy (k : Int) (v : yi) (yd : List (List Int)) : Option (Bool × (List (List Int))) :=
  ((y1d k yd).bind fun y0 => (bif y0.2 then (bif (inR y0.1 yd.length) then (bif (inR (offs y0.1 0) yd.length) then some (false, (List.set yd (Int.toNat (offs y0.1 (0 : Nat))) [List.getD (yd.getD (Int.toNat (offs y0.1 (0 : Nat))) (List.replicate (3 : Nat) (0 : Int))) (0 : Nat) (0 : Int), v.asked, v.words])) else none) else none) else (bif (decide (yd.length + 1 ≤ 1048576)) then (bif (decide (0 ≤ IntKind.i64.wrap (y0.1 + 1) ∧ IntKind.i64.wrap (y0.1 + 1) ≤ (↑(List.length (yd ++ [[0, 0, 0]])) : Int))) then (bif (decide (0 ≤ y0.1 ∧ y0.1 ≤ (↑(List.length (yd ++ [[0, 0, 0]])) : Int))) then (bif (decide (Int.toNat y0.1 + (List.length (yd ++ [[0, 0, 0]]) - Int.toNat y0.1) ≤ List.length (yd ++ [[0, 0, 0]]))) then (bif (decide (Int.toNat (IntKind.i64.wrap (y0.1 + 1)) + (List.length (yd ++ [[0, 0, 0]]) - Int.toNat (IntKind.i64.wrap (y0.1 + 1))) ≤ List.length (yd ++ [[0, 0, 0]]))) then (bif (inR y0.1 (List.length (List.take (Int.toNat (IntKind.i64.wrap (y0.1 + 1))) (yd ++ [[0, 0, 0]]) ++ (List.take (Min.min (List.length (yd ++ [[0, 0, 0]]) - Int.toNat (IntKind.i64.wrap (y0.1 + 1))) (List.length (List.take (List.length (yd ++ [[0, 0, 0]]) - Int.toNat y0.1) (List.drop (Int.toNat y0.1) (yd ++ [[0, 0, 0]]))))) (List.take (List.length (yd ++ [[0, 0, 0]]) - Int.toNat y0.1) (List.drop (Int.toNat y0.1) (yd ++ [[0, 0, 0]]))) ++ List.drop (Int.toNat (IntKind.i64.wrap (y0.1 + 1)) + Min.min (List.length (yd ++ [[0, 0, 0]]) - Int.toNat (IntKind.i64.wrap (y0.1 + 1))) (List.length (List.take (List.length (yd ++ [[0, 0, 0]]) - Int.toNat y0.1) (List.drop (Int.toNat y0.1) (yd ++ [[0, 0, 0]]))))) (yd ++ [[0, 0, 0]]))))) then (bif (inR (offs y0.1 0) (List.length (List.take (Int.toNat (IntKind.i64.wrap (y0.1 + 1))) (yd ++ [[0, 0, 0]]) ++ (List.take (Min.min (List.length (yd ++ [[0, 0, 0]]) - Int.toNat (IntKind.i64.wrap (y0.1 + 1))) (List.length (List.take (List.length (yd ++ [[0, 0, 0]]) - Int.toNat y0.1) (List.drop (Int.toNat y0.1) (yd ++ [[0, 0, 0]]))))) (List.take (List.length (yd ++ [[0, 0, 0]]) - Int.toNat y0.1) (List.drop (Int.toNat y0.1) (yd ++ [[0, 0, 0]]))) ++ List.drop (Int.toNat (IntKind.i64.wrap (y0.1 + 1)) + Min.min (List.length (yd ++ [[0, 0, 0]]) - Int.toNat (IntKind.i64.wrap (y0.1 + 1))) (List.length (List.take (List.length (yd ++ [[0, 0, 0]]) - Int.toNat y0.1) (List.drop (Int.toNat y0.1) (yd ++ [[0, 0, 0]]))))) (yd ++ [[0, 0, 0]]))))) then some (true, (List.set (List.take (Int.toNat (IntKind.i64.wrap (y0.1 + 1))) (yd ++ [[0, 0, 0]]) ++ (List.take (Min.min (List.length (yd ++ [[0, 0, 0]]) - Int.toNat (IntKind.i64.wrap (y0.1 + 1))) (List.length (List.take (List.length (yd ++ [[0, 0, 0]]) - Int.toNat y0.1) (List.drop (Int.toNat y0.1) (yd ++ [[0, 0, 0]]))))) (List.take (List.length (yd ++ [[0, 0, 0]]) - Int.toNat y0.1) (List.drop (Int.toNat y0.1) (yd ++ [[0, 0, 0]]))) ++ List.drop (Int.toNat (IntKind.i64.wrap (y0.1 + 1)) + Min.min (List.length (yd ++ [[0, 0, 0]]) - Int.toNat (IntKind.i64.wrap (y0.1 + 1))) (List.length (List.take (List.length (yd ++ [[0, 0, 0]]) - Int.toNat y0.1) (List.drop (Int.toNat y0.1) (yd ++ [[0, 0, 0]]))))) (yd ++ [[0, 0, 0]]))) (offs y0.1 0).toNat [k, v.asked, v.words])) else none) else none) else none) else none) else none) else none) else none)))
def y03 (k : Int) (yd : List (List Int)) : Option (yi × Bool) :=
  ((y1d k yd).bind fun y0 => (bif (!y0.2) then some ((yi.mk 0 0), false) else (bif (inR y0.1 yd.length) then (bif (inR (offs y0.1 0) yd.length) then some ((yi.mk (List.getD (yd.getD (Int.toNat (offs y0.1 (0 : Nat))) (List.replicate (3 : Nat) (0 : Int))) (1 : Nat) (0 : Int)) (List.getD (yd.getD (Int.toNat (offs y0.1 (0 : Nat))) (List.replicate (3 : Nat) (0 : Int))) (2 : Nat) (0 : Int))), true) else none) else none)))
def y0c (k : Int) (yd : List (List Int)) : Option (Bool × (List (List Int))) :=
  ((y1d k yd).bind fun y0 => (bif (!y0.2) then some (false, yd) else (bif (decide (0 ≤ y0.1 ∧ y0.1 ≤ (↑yd.length : Int))) then (bif (decide (0 ≤ IntKind.i64.wrap (y0.1 + 1) ∧ IntKind.i64.wrap (y0.1 + 1) ≤ (↑yd.length : Int))) then (bif (decide (Int.toNat y0.1 ≤ yd.length)) then (bif (decide (Int.toNat (IntKind.i64.wrap (y0.1 + 1)) + (yd.length - Int.toNat (IntKind.i64.wrap (y0.1 + 1))) ≤ yd.length)) then (bif (decide (List.length (List.take (Int.toNat y0.1) yd) + List.length (List.take (yd.length - Int.toNat (IntKind.i64.wrap (y0.1 + 1))) (List.drop (Int.toNat (IntKind.i64.wrap (y0.1 + 1))) yd)) ≤ 1048576)) then some (true, (List.take (Int.toNat y0.1) yd ++ List.take (yd.length - Int.toNat (IntKind.i64.wrap (y0.1 + 1))) (List.drop (Int.toNat (IntKind.i64.wrap (y0.1 + 1))) yd))) else none) else none) else none) else none) else none)))
def yu (yd : List (List Int)) : Option Int :=
  some (↑yd.length : Int)
def y0x (iv : Int) (yd : List (List Int)) : Option (Int × yi × Bool) :=
  (bif (decide (iv < 0)) then some (0, (yi.mk 0 0), false) else ((yu yd).bind fun y0 => (bif (decide (iv ≥ y0)) then some (0, (yi.mk 0 0), false) else (bif (inR iv yd.length) then (bif (inR (offs iv 0) yd.length) then (bif (inR iv yd.length) then (bif (inR (offs iv 0) yd.length) then some ((List.getD (yd.getD (Int.toNat (offs iv (0 : Nat))) (List.replicate (3 : Nat) (0 : Int))) (0 : Nat) (0 : Int)), (yi.mk (List.getD (yd.getD (Int.toNat (offs iv (0 : Nat))) (List.replicate (3 : Nat) (0 : Int))) (1 : Nat) (0 : Int)) (List.getD (yd.getD (Int.toNat (offs iv (0 : Nat))) (List.replicate (3 : Nat) (0 : Int))) (2 : Nat) (0 : Int))), true) else none) else none) else none) else none))))
attribute [local irreducible] Loop ex exF contK roundK retK at_ bodyOf mkEnv exFW retW
theorem lpok_sorted_Map_model_block_place_L1 (k : Int) (yd : List (List Int)) (low high : Int) (K : V → Heap → Prop) : So (y5o k yd (low, high)) (fun (x : Int × Bool) => K (.tup [vi x.1, vb x.2]) [.rcells [.row 1], .row 70 yd true]) → Loop y3k (⟨56, 2⟩ : Cx) (at_ (bodyOf Try.f99) [1, 1, 0, 0, 0]) (mkEnv [(0, .ptr 0 0), (1, vi k), (6, vi low), (7, vi high)]) [.rcells [.row 1], .row 70 yd true] (contK y3k (⟨56, 2⟩ : Cx) (bodyOf Try.f99) [1, 1, 0, 0] (retK y3k Try.f99 2 K)) := by
  refine loopK_So (fun (s_ : Int × Int) => (mkEnv [(0, .ptr 0 0), (1, vi k), (6, vi s_.1), (7, vi s_.2)])) (fun (s_ : Int × Int) => [.rcells [.row 1], .row 70 yd true]) (fun (x : Int × Bool) => K (.tup [vi x.1, vb x.2]) [.rcells [.row 1], .row 70 yd true]) ?_ (low, high)
  intro s_ J1 h
  clear low
  clear high
  obtain ⟨low, high⟩ := s_
  refine Eq.mpr (yij k yd low high K J1) ?_
  have h : So (y4v k yd low high) _ := h
  unfold y4v at h
  revert h
  exact br_So (req_So (req_So (br_So (fun h => h) (fun h => h)))) (br_So (req_So (req_So (fun h => h))) (fun h => h))
theorem y6p : SpecOK Try.prog elTT 99 (y5c y1d) := by
  refine spec_of_exF (cfg := y3k) (yn rfl rfl rfl) yp (fn := Try.f99) (by kernel_rfl) (by kernel_rfl) (by kernel_rfl) ?_
  intro args H K h
  change y8r y1d args H K at h
  unfold y8r at h
  repeat first | (obtain ⟨_, h⟩ := h) | replace h := Des.el h
  subst_vars
  refine Eq.mpr (yiy _ _ K) ?_
  unfold y1d at h
  revert h
  exact lpok_sorted_Map_model_block_place_L1 _ _ _ _ K
theorem ybh : SpecOK Try.prog elTT 74 (y75 yy) := by
  refine spec_of_exFW (cfg := (yal y1d)) (yn rfl rfl rfl) (yj y6p yp) (pre := []) (wk := wk_sorted_Map_model_block_Put) (fn := Try.f74) (by kernel_rfl) (by kernel_rfl) (by kernel_rfl) ?_
  intro args H K h
  change y7j yy args H K at h
  unfold y7j at h
  repeat first | (obtain ⟨_, h⟩ := h) | replace h := Des.el h
  subst_vars
  refine Eq.mpr (yir y1d _ _ _ _ K) ?_
  unfold yy at h
  revert h
  exact bind_So fun y0 => br_So (req_So (req_So (fun h => h))) (req_So (req_So (req_So (req_So (req_So (req_So (req_So (fun h => h))))))))
theorem y5z : SpecOK Try.prog elTT 75 (y5g y03) := by
  refine spec_of_exF (cfg := (ydq y1d)) (yn rfl rfl rfl) (yj y6p yp) (fn := Try.f75) (by kernel_rfl) (by kernel_rfl) (by kernel_rfl) ?_
  intro args H K h
  change y6f y03 args H K at h
  unfold y6f at h
  repeat first | (obtain ⟨_, h⟩ := h) | replace h := Des.el h
  subst_vars
  refine Eq.mpr (yj3 y1d _ _ K) ?_
  unfold y03 at h
  revert h
  exact bind_So fun y0 => br_So (fun h => h) (req_So (req_So (fun h => h)))
theorem ydh : SpecOK Try.prog elTT 78 (y8b y0c) := by
  refine spec_of_exFW (cfg := (yb1 y1d)) (yn rfl rfl rfl) (yj y6p yp) (pre := []) (wk := wk_sorted_Map_model_block_Cut) (fn := Try.f78) (by kernel_rfl) (by kernel_rfl) (by kernel_rfl) ?_
  intro args H K h
  change y9m y0c args H K at h
  unfold y9m at h
  repeat first | (obtain ⟨_, h⟩ := h) | replace h := Des.el h
  subst_vars
  refine Eq.mpr (yf8 y1d _ _ _ K) ?_
  unfold y0c at h
  revert h
  exact bind_So fun y0 => br_So (fun h => h) (req_So (req_So (req_So (req_So (req_So (fun h => h))))))
theorem y50 : SpecOK Try.prog elTT 55 (y49 yu) := by
  refine spec_of_exF (cfg := yd7) (yn rfl rfl rfl) yp (fn := Try.f55) (by kernel_rfl) (by kernel_rfl) (by kernel_rfl) ?_
  intro args H K h
  change y9s yu args H K at h
  unfold y9s at h
  repeat first | (obtain ⟨_, h⟩ := h) | replace h := Des.el h
  subst_vars
  refine Eq.mpr (yih _ K) ?_
  unfold yu at h
  revert h
  exact fun h => h
theorem yau : SpecOK Try.prog elTT 56 (y96 y0x) := by
  refine spec_of_exF (cfg := (ycf yu)) (yn rfl rfl rfl) (yj y50 yp) (fn := Try.f56) (by kernel_rfl) (by kernel_rfl) (by kernel_rfl) ?_
  intro args H K h
  change y9q y0x args H K at h
  unfold y9q at h
  repeat first | (obtain ⟨_, h⟩ := h) | replace h := Des.el h
  subst_vars
  refine Eq.mpr (yey yu _ _ K) ?_
  unfold y0x at h
  revert h
  exact br_So (fun h => h) (bind_So fun y0 => br_So (fun h => h) (req_So (req_So (req_So (req_So (fun h => h))))))
end Go.Rx
end

section
namespace Go.Rx
open Go.Proofs
set_option maxRecDepth 100000
set_option maxHeartbeats 4000000
abbrev Y19 := Int → yi → (List Pr) → Option (Bool × (List Pr))
def y9a (m_ : Y19) (args : List V) (H : Heap) (K : V → Heap → Prop) : Prop :=
  aC args fun a0 r => aC r fun a1 r => aC r fun a2 r => aN r <| aInt a0 fun a => aAgg a1 fun c1 => y3w c1 fun b => aPtr 0 a2 <| aC H fun b0 r => aC r fun b1 r => aN r <| bCells b0 fun U c0 => aC c0 fun d0_0 r => aRow 1 d0_0 <| aN r <| bRow 2 false b1 fun (l2 : List Pr) => So (m_ a b l2) fun x => K (vb (x.1)) [.cells U [.row 2], .dead, .row 2 (x.2) false]
def yav (m_ : Y19) : Spec := ⟨y9a m_, (⟨true, fun i => Nat.beq i 1, fun _ => false⟩ : RO)⟩
abbrev Y20 := Int → yi → yi → Option (Bool × yi)
def y5v (m_ : Y20) (args : List V) (H : Heap) (K : V → Heap → Prop) : Prop :=
  aC args fun a0 r => aC r fun a1 r => aC r fun a2 r => aN r <| aInt a0 fun v_ => aAgg a1 fun c1 => y3w c1 fun b => aPtr 0 a2 <| aC H fun b0 r => aN r <| bCells b0 fun U c0 => y3w c0 fun all => So (m_ v_ b all) fun x => K (vb (x.1)) [.cells U (y1t (x.2))]
def y7t (m_ : Y20) : Spec := ⟨y5v m_, (true : Bool)⟩
def wk_model_Model_Live_1 : List WK := [⟨false, 0, [], 0, 2, false⟩]
noncomputable def ybo  : Cfg := { cfgB with
  sigs := sigN }
noncomputable def yb8  : Cfg := { cfgB with
  sigs := sigN }
theorem yhz (a : Int) (b : yi) (l2 : List Pr) (U : TypeId) (K : V → Heap → Prop) : (exFW ybo [] wk_model_Model_Live_1 Try.f52 [vi a, .agg (y1t b), .ptr 0 0] [.cells U [.row 1], .row 2 l2 false] K) = (
    Req (Decidable.decide (List.length l2 + 1 ≤ 1048576)) (K (vb (Bool.true)) [.cells U [.row 2], .dead, .row 2 (l2 ++ [Pr.mk a (yi.asked b)] : List (Pr)) Bool.false])) := by
  kernel_rfl
theorem ygh (v_ : Int) (b : yi) (all : yi) (U : TypeId) (K : V → Heap → Prop) : (exF yb8 Try.f79 [vi v_, .agg (y1t b), .ptr 0 0] [.cells U (y1t all)] K) = (
    K (vb (Bool.true)) [.cells U [vi (IntKind.wrap IntKind.i64 (yi.asked all + yi.asked b)), vi (IntKind.wrap IntKind.i64 (yi.words all + yi.words b))]]) := by
  kernel_rfl
noncomputable def y1m (a : Int) (b : yi) (l2 : List Pr) : Option (Bool × (List Pr)) :=
  (bif (Decidable.decide (List.length l2 + 1 ≤ 1048576)) then some (((Bool.true), (l2 ++ [Pr.mk a (yi.asked b)]))) else none)
noncomputable def y1a (v_ : Int) (b : yi) (all : yi) : Option (Bool × yi) :=
  some (((Bool.true), ((yi.mk (IntKind.wrap IntKind.i64 (yi.asked all + yi.asked b)) (IntKind.wrap IntKind.i64 (yi.words all + yi.words b))))))
attribute [local irreducible] Loop ex exF contK roundK retK at_ bodyOf mkEnv exFW retW
theorem yin : SpecOK Try.prog elTT 52 (yav y1m) := by
  refine spec_of_exFW (cfg := ybo) (yn rfl rfl rfl) yp (pre := []) (wk := wk_model_Model_Live_1) (fn := Try.f52) (by kernel_rfl) (by kernel_rfl) (by kernel_rfl) ?_
  intro args H K h
  change y9a y1m args H K at h
  unfold y9a at h
  repeat first | (obtain ⟨_, h⟩ := h) | replace h := Des.el h
  subst_vars
  refine Eq.mpr (yhz _ _ _ _ K) ?_
  unfold y1m at h
  revert h
  exact req_So (fun h => h)
theorem yd2 : SpecOK Try.prog elTT 79 (y7t y1a) := by
  refine spec_of_exF (cfg := yb8) (yn rfl rfl rfl) yp (fn := Try.f79) (by kernel_rfl) (by kernel_rfl) (by kernel_rfl) ?_
  intro args H K h
  change y5v y1a args H K at h
  unfold y5v at h
  repeat first | (obtain ⟨_, h⟩ := h) | replace h := Des.el h
  subst_vars
  refine Eq.mpr (ygh _ _ _ _ K) ?_
  unfold y1a at h
  revert h
  exact fun h => h
end Go.Rx
end

section
namespace Go.Rx
open Go.Proofs
set_option maxRecDepth 100000
set_option maxHeartbeats 4000000
def y71 (m_ : (List (List Int)) → (List Pr) → Option ((List Pr))) (args : List V) (H : Heap) (K : V → Heap → Prop) : Prop :=
  aC args fun a0 r => aC r fun a1 r => aN r <| aPtr 0 a0 <| aFn 52 a1 fun fc1 => aC fc1 fun fp1_0 r => aPtr 1 fp1_0 <| aN r <| aC H fun b0 r => aC r fun b1 r => aC r fun b2 r => aC r fun b3 r => aN r <| bRCells b0 fun c0 => aC c0 fun d0_0 r => aRow 2 d0_0 <| aN r <| bCells b1 fun U c1 => aC c1 fun d1_0 r => aRow 3 d1_0 <| aN r <| bRow 70 true b2 fun (yd : List (List Int)) => bRow 2 false b3 fun (l2 : List Pr) => So (m_ yd l2) fun x => K (.tup []) [.rcells [.row 2], .cells U [.row 4], .row 70 yd true, .dead, .row 2 (x) false]
def yc3 (m_ : (List (List Int)) → (List Pr) → Option ((List Pr))) : Spec := ⟨y71 m_, (⟨true, fun i => Nat.beq i 3, fun i => Nat.beq i 0⟩ : RO)⟩
def y7p (m_ : yi → (List (List Int)) → Option (yi)) (args : List V) (H : Heap) (K : V → Heap → Prop) : Prop :=
  aC args fun a0 r => aC r fun a1 r => aN r <| aPtr 0 a0 <| aFn 79 a1 fun fc1 => aC fc1 fun fp1_0 r => aPtr 1 fp1_0 <| aN r <| aC H fun b0 r => aC r fun b1 r => aC r fun b2 r => aN r <| bRCells b0 fun c0 => aC c0 fun d0_0 r => aRow 2 d0_0 <| aN r <| bCells b1 fun U c1 => y3w c1 fun all => bRow 70 true b2 fun (yd : List (List Int)) => So (m_ all yd) fun x => K (.tup []) [.rcells [.row 2], .cells U (y1t (x)), .row 70 yd true]
def yc4 (m_ : yi → (List (List Int)) → Option (yi)) : Spec := ⟨y7p m_, (⟨true, fun i => false, fun i => Nat.beq i 0⟩ : RO)⟩
def wk_sorted_Each_model_block_1 : List WK := [⟨false, 1, [], 0, 2, false⟩]
def pre_sorted_Each_model_block_1 : List WK := [⟨false, 1, [], 0, 2, false⟩]
noncomputable def y3b (yu : (List (List Int)) → Option (Int)) (y1m : Y19) : Cfg := { cfgB with
  sigs := (sigC 55 (y49 yu) (sigC 52 (yav y1m) sigN)),
  keep := fun r => match r with | 1 => some [(0, none), (1, none), (6, none), (7, none)] | _ => none,
  plan := fun r => match r with | 3 => some (List.range 19, 2) | _ => none }
noncomputable def y3d (yu : (List (List Int)) → Option (Int)) (y1a : Y20) : Cfg := { cfgB with
  sigs := (sigC 55 (y49 yu) (sigC 79 (y7t y1a) sigN)),
  keep := fun r => match r with | 1 => some [(0, none), (1, none), (6, none), (7, none)] | _ => none,
  plan := fun r => match r with | 3 => some (List.range 19, 2) | _ => none }
theorem yhl (yu : (List (List Int)) → Option (Int)) (y1m : Y19) (yd : List (List Int)) (l2 : List Pr) (U : TypeId) (t6 : Int) (t7 : Int) (w : List Go.Rx.Pr) (K : V → Heap → Prop) (J1 : Env → Heap → Prop) : (ex (y3b yu y1m) (⟨30, 4⟩ : Cx) (at_ (bodyOf Try.f51) [1, 0, 0]) (mkEnv [(0, .ptr 0 0), (1, .fn 52 [.ptr 1 0]), (6, vi (t6)), (7, vi (t7))]) [.rcells [.row 2], .cells U [.row 4], .row 70 (yd : List (List Int)) Bool.true, .dead, .row 2 (w : List (Go.Rx.Pr)) Bool.false] (roundK (y3b yu y1m) (⟨30, 4⟩ : Cx) (at_ (bodyOf Try.f51) [1, 0, 0]) (contK (y3b yu y1m) (⟨30, 4⟩ : Cx) (bodyOf Try.f51) [1, 0] (retW (y3b yu y1m) wk_sorted_Each_model_block_1 Try.f51 4 K)) J1)) = (
    br (Decidable.decide (t7 < t6)) (Req (inR t7 (List.length yd)) (Req (inR (offs t7 0) (List.length yd)) (Req (inR t7 (List.length yd)) (Req (inR (offs t7 0) (List.length yd)) (So (y1m (List.getD (List.getD yd (Int.toNat (offs t7 (0 : Nat))) (List.replicate (3 : Nat) (0 : Int))) (0 : Nat) (0 : Int)) (yi.mk (List.getD (List.getD yd (Int.toNat (offs t7 (0 : Nat))) (List.replicate (3 : Nat) (0 : Int))) (1 : Nat) (0 : Int)) (List.getD (List.getD yd (Int.toNat (offs t7 (0 : Nat))) (List.replicate (3 : Nat) (0 : Int))) (2 : Nat) (0 : Int))) w) (fun (y0 : Bool × List Pr) => (br (!Prod.fst y0) (K (.tup []) [.rcells [.row 2], .cells U [.row 4], .row 70 (yd : List (List Int)) Bool.true, .dead, .row 2 (Prod.snd y0 : List (Pr)) Bool.false]) (J1 (mkEnv [(0, .ptr 0 0), (1, .fn 52 [.ptr 1 0]), (6, vi (t6)), (7, vi (IntKind.wrap IntKind.i64 (t7 + 1)))]) [.rcells [.row 2], .cells U [.row 4], .row 70 (yd : List (List Int)) Bool.true, .dead, .row 2 (Prod.snd y0 : List (Pr)) Bool.false])))))))) (K (.tup []) [.rcells [.row 2], .cells U [.row 4], .row 70 (yd : List (List Int)) Bool.true, .dead, .row 2 (w : List (Pr)) Bool.false])) := by
  kernel_rfl
theorem yjr (yu : (List (List Int)) → Option (Int)) (y1m : Y19) (yd : List (List Int)) (l2 : List Pr) (U : TypeId) (K : V → Heap → Prop) : (exFW (y3b yu y1m) pre_sorted_Each_model_block_1 wk_sorted_Each_model_block_1 Try.f51 [.ptr 0 0, .fn 52 [.ptr 1 0]] [.rcells [.row 2], .cells U [.row 3], .row 70 yd true, .row 2 l2 false] K) = (
    So (yu yd) (fun (y0 : Int) => (Loop (y3b yu y1m) (⟨30, 4⟩ : Cx) (at_ (bodyOf Try.f51) [1, 0, 0]) (mkEnv [(0, .ptr 0 0), (1, .fn 52 [.ptr 1 0]), (6, vi (y0)), (7, vi (0))]) [.rcells [.row 2], .cells U [.row 4], .row 70 (yd : List (List Int)) Bool.true, .dead, .row 2 (l2 : List (Pr)) Bool.false] (contK (y3b yu y1m) (⟨30, 4⟩ : Cx) (bodyOf Try.f51) [1, 0] (retW (y3b yu y1m) wk_sorted_Each_model_block_1 Try.f51 4 K))))) := by
  kernel_rfl
theorem yi3 (yu : (List (List Int)) → Option (Int)) (y1a : Y20) (all : yi) (yd : List (List Int)) (U : TypeId) (t6 : Int) (t7 : Int) (all2 : yi) (K : V → Heap → Prop) (J1 : Env → Heap → Prop) : (ex (y3d yu y1a) (⟨30, 3⟩ : Cx) (at_ (bodyOf Try.f51) [1, 0, 0]) (mkEnv [(0, .ptr 0 0), (1, .fn 79 [.ptr 1 0]), (6, vi (t6)), (7, vi (t7))]) [.rcells [.row 2], .cells U (y1t all2), .row 70 (yd : List (List Int)) Bool.true] (roundK (y3d yu y1a) (⟨30, 3⟩ : Cx) (at_ (bodyOf Try.f51) [1, 0, 0]) (contK (y3d yu y1a) (⟨30, 3⟩ : Cx) (bodyOf Try.f51) [1, 0] (retK (y3d yu y1a) Try.f51 3 K)) J1)) = (
    br (Decidable.decide (t7 < t6)) (Req (inR t7 (List.length yd)) (Req (inR (offs t7 0) (List.length yd)) (Req (inR t7 (List.length yd)) (Req (inR (offs t7 0) (List.length yd)) (So (y1a (List.getD (List.getD yd (Int.toNat (offs t7 (0 : Nat))) (List.replicate (3 : Nat) (0 : Int))) (0 : Nat) (0 : Int)) (yi.mk (List.getD (List.getD yd (Int.toNat (offs t7 (0 : Nat))) (List.replicate (3 : Nat) (0 : Int))) (1 : Nat) (0 : Int)) (List.getD (List.getD yd (Int.toNat (offs t7 (0 : Nat))) (List.replicate (3 : Nat) (0 : Int))) (2 : Nat) (0 : Int))) all2) (fun (y0 : Bool × yi) => (br (!Prod.fst y0) (K (.tup []) [.rcells [.row 2], .cells U (y1t (Prod.snd y0)), .row 70 (yd : List (List Int)) Bool.true]) (J1 (mkEnv [(0, .ptr 0 0), (1, .fn 79 [.ptr 1 0]), (6, vi (t6)), (7, vi (IntKind.wrap IntKind.i64 (t7 + 1)))]) [.rcells [.row 2], .cells U (y1t (Prod.snd y0)), .row 70 (yd : List (List Int)) Bool.true])))))))) (K (.tup []) [.rcells [.row 2], .cells U (y1t all2), .row 70 (yd : List (List Int)) Bool.true])) := by
  kernel_rfl
theorem yjz (yu : (List (List Int)) → Option (Int)) (y1a : Y20) (all : yi) (yd : List (List Int)) (U : TypeId) (K : V → Heap → Prop) : (exF (y3d yu y1a) Try.f51 [.ptr 0 0, .fn 79 [.ptr 1 0]] [.rcells [.row 2], .cells U (y1t all), .row 70 yd true] K) = (
    So (yu yd) (fun (y0 : Int) => (Loop (y3d yu y1a) (⟨30, 3⟩ : Cx) (at_ (bodyOf Try.f51) [1, 0, 0]) (mkEnv [(0, .ptr 0 0), (1, .fn 79 [.ptr 1 0]), (6, vi (y0)), (7, vi (0))]) [.rcells [.row 2], .cells U (y1t all), .row 70 (yd : List (List Int)) Bool.true] (contK (y3d yu y1a) (⟨30, 3⟩ : Cx) (bodyOf Try.f51) [1, 0] (retK (y3d yu y1a) Try.f51 3 K))))) := by
  kernel_rfl
noncomputable def y7f (yd : List (List Int)) (t6 : Int) (t7 : Int) (w : List Go.Rx.Pr) : Option ((Int × (List Go.Rx.Pr)) ⊕ ((List Pr))) :=
  (bif (Decidable.decide (t7 < t6)) then (bif (inR t7 (List.length yd)) then (bif (inR (offs t7 0) (List.length yd)) then (bif (inR t7 (List.length yd)) then (bif (inR (offs t7 0) (List.length yd)) then ((y1m (List.getD (List.getD yd (Int.toNat (offs t7 (0 : Nat))) (List.replicate (3 : Nat) (0 : Int))) (0 : Nat) (0 : Int)) (yi.mk (List.getD (List.getD yd (Int.toNat (offs t7 (0 : Nat))) (List.replicate (3 : Nat) (0 : Int))) (1 : Nat) (0 : Int)) (List.getD (List.getD yd (Int.toNat (offs t7 (0 : Nat))) (List.replicate (3 : Nat) (0 : Int))) (2 : Nat) (0 : Int))) w).bind fun y0 => (bif (!Prod.fst y0) then some (.inr ((Prod.snd y0))) else some (.inl ((IntKind.wrap IntKind.i64 (t7 + 1)), (Prod.snd y0))))) else none) else none) else none) else none) else some (.inr ((w))))
noncomputable def y9u (yd : List (List Int)) (t6 : Int) (s : Int × (List Go.Rx.Pr)) : Option ((List Pr)) :=
  loopO (fun s => y7f yd t6 s.1 s.2) s
noncomputable def y3s (yd : List (List Int)) (l2 : List Pr) : Option ((List Pr)) :=
  ((yu yd).bind fun y0 => (y9u yd (y0) ((0), (l2))))
noncomputable def y4i (yd : List (List Int)) (t6 : Int) (t7 : Int) (all2 : yi) : Option ((Int × yi) ⊕ (yi)) :=
  (bif (Decidable.decide (t7 < t6)) then (bif (inR t7 (List.length yd)) then (bif (inR (offs t7 0) (List.length yd)) then (bif (inR t7 (List.length yd)) then (bif (inR (offs t7 0) (List.length yd)) then ((y1a (List.getD (List.getD yd (Int.toNat (offs t7 (0 : Nat))) (List.replicate (3 : Nat) (0 : Int))) (0 : Nat) (0 : Int)) (yi.mk (List.getD (List.getD yd (Int.toNat (offs t7 (0 : Nat))) (List.replicate (3 : Nat) (0 : Int))) (1 : Nat) (0 : Int)) (List.getD (List.getD yd (Int.toNat (offs t7 (0 : Nat))) (List.replicate (3 : Nat) (0 : Int))) (2 : Nat) (0 : Int))) all2).bind fun y0 => (bif (!Prod.fst y0) then some (.inr (((Prod.snd y0)))) else some (.inl ((IntKind.wrap IntKind.i64 (t7 + 1)), (Prod.snd y0))))) else none) else none) else none) else none) else some (.inr ((all2))))
noncomputable def y5x (yd : List (List Int)) (t6 : Int) (s : Int × yi) : Option (yi) :=
  loopO (fun s => y4i yd t6 s.1 s.2) s
noncomputable def y2s (all : yi) (yd : List (List Int)) : Option (yi) :=
  ((yu yd).bind fun y0 => (y5x yd (y0) ((0), (all))))
attribute [local irreducible] Loop ex exF contK roundK retK at_ bodyOf mkEnv exFW retW
theorem lpok_sorted_Each_model_block_1_L1 (yd : List (List Int)) (l2 : List Pr) (U : TypeId) (t6 : Int) (t7 : Int) (w : List Go.Rx.Pr) (K : V → Heap → Prop) : So (y9u (yd) (t6) (t7, w)) (fun (x : (List Pr)) => K (.tup []) [.rcells [.row 2], .cells U [.row 4], .row 70 yd true, .dead, .row 2 (x) false]) → Loop (y3b yu y1m) (⟨30, 4⟩ : Cx) (at_ (bodyOf Try.f51) [1, 0, 0]) (mkEnv [(0, .ptr 0 0), (1, .fn 52 [.ptr 1 0]), (6, vi (t6)), (7, vi (t7))]) [.rcells [.row 2], .cells U [.row 4], .row 70 (yd : List (List Int)) Bool.true, .dead, .row 2 (w : List (Pr)) Bool.false] (contK (y3b yu y1m) (⟨30, 4⟩ : Cx) (bodyOf Try.f51) [1, 0] (retW (y3b yu y1m) wk_sorted_Each_model_block_1 Try.f51 4 K)) := by
  refine loopK_So (fun (s_ : Int × (List Pr)) => (mkEnv [(0, .ptr 0 0), (1, .fn 52 [.ptr 1 0]), (6, vi (t6)), (7, vi ((s_.1)))])) (fun (s_ : Int × (List Pr)) => [.rcells [.row 2], .cells U [.row 4], .row 70 (yd : List (List Int)) Bool.true, .dead, .row 2 ((s_.2) : List (Pr)) Bool.false]) (fun (x : (List Pr)) => K (.tup []) [.rcells [.row 2], .cells U [.row 4], .row 70 yd true, .dead, .row 2 (x) false]) ?_ (t7, w)
  intro s_ J1 h
  clear t7
  clear w
  obtain ⟨t7, w⟩ := s_
  refine Eq.mpr (yhl yu y1m yd l2 U t6 t7 w K J1) ?_
  have h : So (y7f (yd) (t6) t7 w) _ := h
  unfold y7f at h
  revert h
  exact br_So (req_So (req_So (req_So (req_So (bind_So fun y0 => br_So (fun h => h) (fun h => h)))))) (fun h => h)
theorem yeg : SpecOK Try.prog elTT 51 (yc3 y3s) := by
  refine spec_of_exFW (cfg := (y3b yu y1m)) (yn rfl rfl rfl) (yj y50 (yj yin yp)) (pre := pre_sorted_Each_model_block_1) (wk := wk_sorted_Each_model_block_1) (fn := Try.f51) (by kernel_rfl) (by kernel_rfl) (by kernel_rfl) ?_
  intro args H K h
  change y71 y3s args H K at h
  unfold y71 at h
  repeat first | (obtain ⟨_, h⟩ := h) | replace h := Des.el h
  subst_vars
  refine Eq.mpr (yjr yu y1m _ _ _ K) ?_
  unfold y3s at h
  revert h
  exact bind_So fun y0 => lpok_sorted_Each_model_block_1_L1 _ (by first | assumption | exact default) _ _ _ _ K
theorem lpok_sorted_Each_model_block_2_L1 (all : yi) (yd : List (List Int)) (U : TypeId) (t6 : Int) (t7 : Int) (all2 : yi) (K : V → Heap → Prop) : So (y5x (yd) (t6) (t7, all2)) (fun (x : yi) => K (.tup []) [.rcells [.row 2], .cells U (y1t (x)), .row 70 yd true]) → Loop (y3d yu y1a) (⟨30, 3⟩ : Cx) (at_ (bodyOf Try.f51) [1, 0, 0]) (mkEnv [(0, .ptr 0 0), (1, .fn 79 [.ptr 1 0]), (6, vi (t6)), (7, vi (t7))]) [.rcells [.row 2], .cells U (y1t all2), .row 70 (yd : List (List Int)) Bool.true] (contK (y3d yu y1a) (⟨30, 3⟩ : Cx) (bodyOf Try.f51) [1, 0] (retK (y3d yu y1a) Try.f51 3 K)) := by
  refine loopK_So (fun (s_ : Int × yi) => (mkEnv [(0, .ptr 0 0), (1, .fn 79 [.ptr 1 0]), (6, vi (t6)), (7, vi ((s_.1)))])) (fun (s_ : Int × yi) => [.rcells [.row 2], .cells U (y1t (s_.2)), .row 70 (yd : List (List Int)) Bool.true]) (fun (x : yi) => K (.tup []) [.rcells [.row 2], .cells U (y1t (x)), .row 70 yd true]) ?_ (t7, all2)
  intro s_ J1 h
  clear t7
  clear all2
  obtain ⟨t7, all2⟩ := s_
  refine Eq.mpr (yi3 yu y1a all yd U t6 t7 all2 K J1) ?_
  have h : So (y4i (yd) (t6) t7 all2) _ := h
  unfold y4i at h
  revert h
  exact br_So (req_So (req_So (req_So (req_So (bind_So fun y0 => br_So (fun h => h) (fun h => h)))))) (fun h => h)
theorem yet : SpecOK Try.prog elTT 51 (yc4 y2s) := by
  refine spec_of_exF (cfg := (y3d yu y1a)) (yn rfl rfl rfl) (yj y50 (yj yd2 yp)) (fn := Try.f51) (by kernel_rfl) (by kernel_rfl) (by kernel_rfl) ?_
  intro args H K h
  change y7p y2s args H K at h
  unfold y7p at h
  repeat first | (obtain ⟨_, h⟩ := h) | replace h := Des.el h
  subst_vars
  refine Eq.mpr (yjz yu y1a _ _ _ K) ?_
  unfold y2s at h
  revert h
  exact bind_So fun y0 => lpok_sorted_Each_model_block_2_L1 (by first | assumption | exact default) _ _ _ _ _ K
end Go.Rx
end

section
namespace Go.Rx
open Go.Proofs
set_option maxRecDepth 100000
set_option maxHeartbeats 4000000
theorem yf9 {cs : List V} {k : ye → List V → Prop} (h : y1u (List.take 23 cs) fun x => aRest (List.drop 23 cs) fun r => k x r) : ∃ x r, cs = yk x ++ r ∧ k x r := by
  obtain ⟨x, e, h⟩ := yd6 h
  exact ⟨x, _, by rw [← e, List.take_append_drop], h⟩
instance (cs : List V) (k : ye → List V → Prop) : Des (y1u (List.take 23 cs) fun x => aRest (List.drop 23 cs) fun r => k x r) (∃ x r, cs = yk x ++ r ∧ k x r) := ⟨yf9⟩
abbrev Y32 := yb → Option (Bool × Int × ye × (List Int) × (List (List Int)))
def y8j (m_ : Y32) (args : List V) (H : Heap) (K : V → Heap → Prop) : Prop :=
  aC args fun a0 r => aN r <| aAgg a0 fun c0 => y26 c0 fun c => aN H <| So (m_ c) fun x => br (x.1) (K (.tup [.ptr 0 0, vi (x.2.1)]) [.cells 0 (yk (x.2.2.1) ++ [.ptr 1 0, .row 2]), .cells 0 [.row 3], .row 0 (x.2.2.2.1) false, .row 70 (x.2.2.2.2) false]) (K (.tup [.ext (.pointer none), vi (x.2.1)]) [])
def yjw (m_ : Y32) : Spec := ⟨y8j m_, (true : Bool)⟩
abbrev Y10 := Int → Int → Option (Int)
def y5p (m_ : Y10) (args : List V) (H : Heap) (K : V → Heap → Prop) : Prop :=
  aC args fun a0 r => aC r fun a1 r => aN r <| aInt a0 fun size => aInt a1 fun align => aN H <| So (m_ size align) fun x => K (vi (x)) []
def y9e (m_ : Y10) : Spec := ⟨y5p m_, (true : Bool)⟩
abbrev Y14 := T_api_Reply → Option (Bool)
def y6y (m_ : Y14) (args : List V) (H : Heap) (K : V → Heap → Prop) : Prop :=
  aC args fun a0 r => aN r <| aAgg a0 fun c0 => y24 c0 fun rv => aN H <| So (m_ rv) fun x => K (vb (x)) []
def y53 (m_ : Y14) : Spec := ⟨y6y m_, (true : Bool)⟩
def y91 (m_ : Int → ye → (List Int) → (List (List Int)) → Option (Int)) (args : List V) (H : Heap) (K : V → Heap → Prop) : Prop :=
  aC args fun a0 r => aC r fun a1 r => aN r <| aPtr 0 a0 <| aInt a1 fun a => aC H fun b0 r => aC r fun b1 r => aC r fun b2 r => aC r fun b3 r => aN r <| bRCells b0 fun c0 => y1u (List.take 23 c0) fun m_lv => aRest (List.drop 23 c0) fun r => aC r fun d0_23 r => aPtr 1 d0_23 <| aC r fun d0_24 r => aRow 2 d0_24 <| aN r <| bRCells b1 fun c1 => aC c1 fun d1_0 r => aRow 3 d1_0 <| aN r <| bRow 0 true b2 fun (yg : List Int) => bRow 70 true b3 fun (yf : List (List Int)) => So (m_ a m_lv yg yf) fun x => K (vi (x)) [.rcells (yk m_lv ++ [.ptr 1 0, .row 2]), .rcells [.row 3], .row 0 yg true, .row 70 yf true]
def y9o (m_ : Int → ye → (List Int) → (List (List Int)) → Option (Int)) : Spec := ⟨y91 m_, (⟨true, fun i => false, fun i => Nat.beq i 0 || Nat.beq i 1⟩ : RO)⟩
def y9b (m_ : Y2) (args : List V) (H : Heap) (K : V → Heap → Prop) : Prop :=
  aC args fun a0 r => aC r fun a1 r => aN r <| aNilP a0 <| aInt a1 fun a => aN H <| So (m_ a) fun x => K (vi (x)) []
def y63 (m_ : Y2) : Spec := ⟨y9b m_, (true : Bool)⟩
def y9i (m_ : Int → ye → (List Int) → (List (List Int)) → Option (Int × Int × Bool)) (args : List V) (H : Heap) (K : V → Heap → Prop) : Prop :=
  aC args fun a0 r => aC r fun a1 r => aN r <| aPtr 0 a0 <| aInt a1 fun a => aC H fun b0 r => aC r fun b1 r => aC r fun b2 r => aC r fun b3 r => aN r <| bRCells b0 fun c0 => y1u (List.take 23 c0) fun m_lv => aRest (List.drop 23 c0) fun r => aC r fun d0_23 r => aPtr 1 d0_23 <| aC r fun d0_24 r => aRow 2 d0_24 <| aN r <| bRCells b1 fun c1 => aC c1 fun d1_0 r => aRow 3 d1_0 <| aN r <| bRow 0 true b2 fun (yg : List Int) => bRow 70 true b3 fun (yf : List (List Int)) => So (m_ a m_lv yg yf) fun x => K (.tup [vi (x.1), vi (x.2.1), vb (x.2.2)]) [.rcells (yk m_lv ++ [.ptr 1 0, .row 2]), .rcells [.row 3], .row 0 yg true, .row 70 yf true]
def y6b (m_ : Int → ye → (List Int) → (List (List Int)) → Option (Int × Int × Bool)) : Spec := ⟨y9i m_, (⟨true, fun i => false, fun i => Nat.beq i 0 || Nat.beq i 1⟩ : RO)⟩
abbrev Y22 := Int → Option (Int × Int × Bool)
def y6a (m_ : Y22) (args : List V) (H : Heap) (K : V → Heap → Prop) : Prop :=
  aC args fun a0 r => aC r fun a1 r => aN r <| aNilP a0 <| aInt a1 fun a => aN H <| So (m_ a) fun x => K (.tup [vi (x.1), vi (x.2.1), vb (x.2.2)]) []
def y8a (m_ : Y22) : Spec := ⟨y6a m_, (true : Bool)⟩
def y69 (m_ : yc → T_api_Reply → ye → (List Int) → (List (List Int)) → Option (Bool)) (args : List V) (H : Heap) (K : V → Heap → Prop) : Prop :=
  aC args fun a0 r => aC r fun a1 r => aC r fun a2 r => aN r <| aPtr 0 a0 <| aAgg a1 fun c1 => y1z c1 fun c => aAgg a2 fun c2 => y24 c2 fun rv => aC H fun b0 r => aC r fun b1 r => aC r fun b2 r => aC r fun b3 r => aN r <| bRCells b0 fun c0 => y1u (List.take 23 c0) fun m_lv => aRest (List.drop 23 c0) fun r => aC r fun d0_23 r => aPtr 1 d0_23 <| aC r fun d0_24 r => aRow 2 d0_24 <| aN r <| bRCells b1 fun c1 => aC c1 fun d1_0 r => aRow 3 d1_0 <| aN r <| bRow 0 true b2 fun (yg : List Int) => bRow 70 true b3 fun (yf : List (List Int)) => So (m_ c rv m_lv yg yf) fun x => K (vb (x)) [.rcells (yk m_lv ++ [.ptr 1 0, .row 2]), .rcells [.row 3], .row 0 yg true, .row 70 yf true]
def ybk (m_ : yc → T_api_Reply → ye → (List Int) → (List (List Int)) → Option (Bool)) : Spec := ⟨y69 m_, (⟨true, fun i => false, fun i => Nat.beq i 0 || Nat.beq i 1⟩ : RO)⟩
def y6r (m_ : yc → T_api_Reply → ye → (List Int) → (List (List Int)) → Option (Bool × (List (List Int)) × (List Int))) (args : List V) (H : Heap) (K : V → Heap → Prop) : Prop :=
  aC args fun a0 r => aC r fun a1 r => aC r fun a2 r => aN r <| aPtr 0 a0 <| aAgg a1 fun c1 => y1z c1 fun c => aAgg a2 fun c2 => y24 c2 fun rv => aC H fun b0 r => aC r fun b1 r => aC r fun b2 r => aC r fun b3 r => aN r <| bRCells b0 fun c0 => y1u (List.take 23 c0) fun m_lv => aRest (List.drop 23 c0) fun r => aC r fun d0_23 r => aPtr 1 d0_23 <| aC r fun d0_24 r => aRow 2 d0_24 <| aN r <| bCells b1 fun U c1 => aC c1 fun d1_0 r => aRow 3 d1_0 <| aN r <| bRow 0 false b2 fun (yg : List Int) => bRow 70 false b3 fun (yf : List (List Int)) => So (m_ c rv m_lv yg yf) fun x => K (vb (x.1)) [.rcells (yk m_lv ++ [.ptr 1 0, .row 2]), .cells U [.row 4], .row 0 (x.2.2) false, .dead, .row 70 (x.2.1) false]
def y5b (m_ : yc → T_api_Reply → ye → (List Int) → (List (List Int)) → Option (Bool × (List (List Int)) × (List Int))) : Spec := ⟨y6r m_, (⟨true, fun i => Nat.beq i 2 || Nat.beq i 3, fun i => Nat.beq i 0⟩ : RO)⟩
def y6i (m_ : yc → T_api_Reply → ye → (List Int) → (List (List Int)) → Option (Bool × (List (List Int)) × (List Int))) (args : List V) (H : Heap) (K : V → Heap → Prop) : Prop :=
  aC args fun a0 r => aC r fun a1 r => aC r fun a2 r => aN r <| aPtr 0 a0 <| aAgg a1 fun c1 => y1z c1 fun c => aAgg a2 fun c2 => y24 c2 fun rv => aC H fun b0 r => aC r fun b1 r => aC r fun b2 r => aC r fun b3 r => aN r <| bRCells b0 fun c0 => y1u (List.take 23 c0) fun m_lv => aRest (List.drop 23 c0) fun r => aC r fun d0_23 r => aPtr 1 d0_23 <| aC r fun d0_24 r => aRow 2 d0_24 <| aN r <| bCells b1 fun U c1 => aC c1 fun d1_0 r => aRow 3 d1_0 <| aN r <| bRow 0 false b2 fun (yg : List Int) => bRow 70 false b3 fun (yf : List (List Int)) => So (m_ c rv m_lv yg yf) fun x => K (vb (x.1)) [.rcells (yk m_lv ++ [.ptr 1 0, .row 2]), .cells U [.row 4], .row 0 (x.2.2) false, .dead, .row 70 (x.2.1) false]
def y77 (m_ : yc → T_api_Reply → ye → (List Int) → (List (List Int)) → Option (Bool × (List (List Int)) × (List Int))) : Spec := ⟨y6i m_, (⟨true, fun i => Nat.beq i 2 || Nat.beq i 3, fun i => Nat.beq i 0⟩ : RO)⟩
def y9h (m_ : yc → T_api_Reply → ye → (List Int) → (List (List Int)) → Option (Bool × (List (List Int)))) (args : List V) (H : Heap) (K : V → Heap → Prop) : Prop :=
  aC args fun a0 r => aC r fun a1 r => aC r fun a2 r => aN r <| aPtr 0 a0 <| aAgg a1 fun c1 => y1z c1 fun c => aAgg a2 fun c2 => y24 c2 fun rv => aC H fun b0 r => aC r fun b1 r => aC r fun b2 r => aC r fun b3 r => aN r <| bRCells b0 fun c0 => y1u (List.take 23 c0) fun m_lv => aRest (List.drop 23 c0) fun r => aC r fun d0_23 r => aPtr 1 d0_23 <| aC r fun d0_24 r => aRow 2 d0_24 <| aN r <| bCells b1 fun U c1 => aC c1 fun d1_0 r => aRow 3 d1_0 <| aN r <| bRow 0 true b2 fun (yg : List Int) => bRow 70 false b3 fun (yf : List (List Int)) => So (m_ c rv m_lv yg yf) fun x => K (vb (x.1)) [.rcells (yk m_lv ++ [.ptr 1 0, .row 2]), .cells U [.row 4], .row 0 yg true, .dead, .row 70 (x.2) false]
def y5q (m_ : yc → T_api_Reply → ye → (List Int) → (List (List Int)) → Option (Bool × (List (List Int)))) : Spec := ⟨y9h m_, (⟨true, fun i => Nat.beq i 3, fun i => Nat.beq i 0⟩ : RO)⟩
def y7g (m_ : yc → T_api_Reply → ye → (List Int) → (List (List Int)) → Option (Bool)) (args : List V) (H : Heap) (K : V → Heap → Prop) : Prop :=
  aC args fun a0 r => aC r fun a1 r => aC r fun a2 r => aN r <| aPtr 0 a0 <| aAgg a1 fun c1 => y1z c1 fun c => aAgg a2 fun c2 => y24 c2 fun rv => aC H fun b0 r => aC r fun b1 r => aC r fun b2 r => aC r fun b3 r => aN r <| bRCells b0 fun c0 => y1u (List.take 23 c0) fun m_lv => aRest (List.drop 23 c0) fun r => aC r fun d0_23 r => aPtr 1 d0_23 <| aC r fun d0_24 r => aRow 2 d0_24 <| aN r <| bRCells b1 fun c1 => aC c1 fun d1_0 r => aRow 3 d1_0 <| aN r <| bRow 0 true b2 fun (yg : List Int) => bRow 70 true b3 fun (yf : List (List Int)) => So (m_ c rv m_lv yg yf) fun x => K (vb (x)) [.rcells (yk m_lv ++ [.ptr 1 0, .row 2]), .rcells [.row 3], .row 0 yg true, .row 70 yf true]
def y68 (m_ : yc → T_api_Reply → ye → (List Int) → (List (List Int)) → Option (Bool)) : Spec := ⟨y7g m_, (⟨true, fun i => false, fun i => Nat.beq i 0 || Nat.beq i 1⟩ : RO)⟩
def y78 (m_ : T_api_Reply → ye → (List Int) → (List (List Int)) → Option (Bool)) (args : List V) (H : Heap) (K : V → Heap → Prop) : Prop :=
  aC args fun a0 r => aC r fun a1 r => aN r <| aPtr 0 a0 <| aAgg a1 fun c1 => y24 c1 fun rv => aC H fun b0 r => aC r fun b1 r => aC r fun b2 r => aC r fun b3 r => aN r <| bRCells b0 fun c0 => y1u (List.take 23 c0) fun m_lv => aRest (List.drop 23 c0) fun r => aC r fun d0_23 r => aPtr 1 d0_23 <| aC r fun d0_24 r => aRow 2 d0_24 <| aN r <| bRCells b1 fun c1 => aC c1 fun d1_0 r => aRow 3 d1_0 <| aN r <| bRow 0 true b2 fun (yg : List Int) => bRow 70 true b3 fun (yf : List (List Int)) => So (m_ rv m_lv yg yf) fun x => K (vb (x)) [.rcells (yk m_lv ++ [.ptr 1 0, .row 2]), .rcells [.row 3], .row 0 yg true, .row 70 yf true]
def y73 (m_ : T_api_Reply → ye → (List Int) → (List (List Int)) → Option (Bool)) : Spec := ⟨y78 m_, (⟨true, fun i => false, fun i => Nat.beq i 0 || Nat.beq i 1⟩ : RO)⟩
def y7c (m_ : yc → T_api_Reply → ye → (List Int) → (List (List Int)) → Option (Bool × (List Int))) (args : List V) (H : Heap) (K : V → Heap → Prop) : Prop :=
  aC args fun a0 r => aC r fun a1 r => aC r fun a2 r => aN r <| aPtr 0 a0 <| aAgg a1 fun c1 => y1z c1 fun c => aAgg a2 fun c2 => y24 c2 fun rv => aC H fun b0 r => aC r fun b1 r => aC r fun b2 r => aC r fun b3 r => aN r <| bRCells b0 fun c0 => y1u (List.take 23 c0) fun m_lv => aRest (List.drop 23 c0) fun r => aC r fun d0_23 r => aPtr 1 d0_23 <| aC r fun d0_24 r => aRow 2 d0_24 <| aN r <| bRCells b1 fun c1 => aC c1 fun d1_0 r => aRow 3 d1_0 <| aN r <| bRow 0 false b2 fun (yg : List Int) => bRow 70 true b3 fun (yf : List (List Int)) => So (m_ c rv m_lv yg yf) fun x => K (vb (x.1)) [.rcells (yk m_lv ++ [.ptr 1 0, .row 2]), .rcells [.row 3], .row 0 (x.2) false, .row 70 yf true]
def y8o (m_ : yc → T_api_Reply → ye → (List Int) → (List (List Int)) → Option (Bool × (List Int))) : Spec := ⟨y7c m_, (⟨true, fun i => Nat.beq i 2, fun i => Nat.beq i 0 || Nat.beq i 1⟩ : RO)⟩
def y9p (m_ : yc → T_api_Reply → ye → (List Int) → (List (List Int)) → Option (Bool × (List (List Int)) × (List Int))) (args : List V) (H : Heap) (K : V → Heap → Prop) : Prop :=
  aC args fun a0 r => aC r fun a1 r => aC r fun a2 r => aN r <| aPtr 0 a0 <| aAgg a1 fun c1 => y1z c1 fun c => aAgg a2 fun c2 => y24 c2 fun rv => aC H fun b0 r => aC r fun b1 r => aC r fun b2 r => aC r fun b3 r => aN r <| bRCells b0 fun c0 => y1u (List.take 23 c0) fun m_lv => aRest (List.drop 23 c0) fun r => aC r fun d0_23 r => aPtr 1 d0_23 <| aC r fun d0_24 r => aRow 2 d0_24 <| aN r <| bCells b1 fun U c1 => aC c1 fun d1_0 r => aRow 3 d1_0 <| aN r <| bRow 0 false b2 fun (yg : List Int) => bRow 70 false b3 fun (yf : List (List Int)) => So (m_ c rv m_lv yg yf) fun x => K (vb (x.1)) [.rcells (yk m_lv ++ [.ptr 1 0, .row 2]), .cells U [.row 4], .row 0 (x.2.2) false, .dead, .row 70 (x.2.1) false]
def y9w (m_ : yc → T_api_Reply → ye → (List Int) → (List (List Int)) → Option (Bool × (List (List Int)) × (List Int))) : Spec := ⟨y9p m_, (⟨true, fun i => Nat.beq i 2 || Nat.beq i 3, fun i => Nat.beq i 0⟩ : RO)⟩
abbrev Y23 := yc → T_api_Reply → Option (Bool)
def y8w (m_ : Y23) (args : List V) (H : Heap) (K : V → Heap → Prop) : Prop :=
  aC args fun a0 r => aC r fun a1 r => aC r fun a2 r => aN r <| aNilP a0 <| aAgg a1 fun c1 => y1z c1 fun c => aAgg a2 fun c2 => y24 c2 fun rv => aN H <| So (m_ c rv) fun x => K (vb (x)) []
def ycv (m_ : Y23) : Spec := ⟨y8w m_, (true : Bool)⟩
def wk_model_New : List WK := [⟨true, 0, [], 0, 0, true⟩, ⟨true, 0, [], 24, 0, false⟩, ⟨true, 0, [23], 0, 0, true⟩, ⟨true, 0, [23], 0, 70, false⟩]
noncomputable def yb4 (y1q : Y28) (y0j : Y6) (ym : Y6) : Cfg := { cfgB with
  sigs := (sigC 31 (y7k y1q) (sigC 33 (inlS cfgB Try.f33) (sigC 24 (y8p y0j) (sigC 23 (y2a ym) sigN)))),
  plan := fun r => match r with | 4 => some ([0, 2, 4, 1, 3, 5, 6, 7, 8, 9, 10, 11], 0) | _ => none }
noncomputable def ydj (y2r : Y18) : Cfg := { cfgB with
  sigs := (sigC 100 (yay y2r) sigN) }
noncomputable def ydv  : Cfg := { cfgB with
  sigs := sigN }
noncomputable def ye8 (ym : Y6) (yq : Y4) : Cfg := { cfgB with
  sigs := (sigC 54 (inlSR (⟨true, fun _ => false, fun i => Nat.beq i 0 || Nat.beq i 1⟩ : RO)  ({ cfgB with sigs := (sigC 86 (y2w yq) (sigC 23 (y2a ym) sigN)), plan := fun r => match r with | 4 => some (List.range 13, 0) | _ => none } : Cfg) Try.f54) sigN) }
noncomputable def ya4 (ym : Y6) (yq : Y4) : Cfg := { cfgB with
  sigs := (sigC 54 (inlSR (⟨true, fun _ => false, fun i => Nat.beq i 0 || Nat.beq i 1⟩ : RO)  ({ cfgB with sigs := (sigC 86 (y2w yq) (sigC 23 (y2a ym) sigN)), plan := fun r => match r with | 4 => some (List.range 13, 0) | _ => none } : Cfg) Try.f54) sigN) }
noncomputable def y3g (yu : (List (List Int)) → Option (Int)) (y0x : Int → (List (List Int)) → Option (Int × yi × Bool)) : Cfg := { cfgB with
  sigs := (sigC 55 (y49 yu) (sigC 56 (y96 y0x) sigN)),
  keep := fun r => match r with | 4 => some [(0, none), (1, none), (7, none)] | _ => none,
  plan := fun r => match r with | 9 => some (List.range 6, 0) | _ => none }
noncomputable def yc7 (yu : (List (List Int)) → Option (Int)) (y0x : Int → (List (List Int)) → Option (Int × yi × Bool)) : Cfg := { cfgB with
  sigs := (sigC 55 (y49 yu) (sigC 56 (y96 y0x) sigN)),
  keep := fun r => match r with | 4 => some [(0, none), (1, none), (7, none)] | _ => none,
  plan := fun r => match r with | 9 => some (List.range 6, 0) | _ => none }
noncomputable def y2e (yw : Y10) (ym : Y6) (yq : Y4) (y0j : Y6) (y0y : Y22) (y0k : Int → ye → (List Int) → (List (List Int)) → Option (Int × Int × Bool)) : Cfg := { cfgB with
  sigs := (sigC 77 (y9e yw) (sigC 54 (inlSR (⟨true, fun _ => false, fun i => Nat.beq i 0 || Nat.beq i 1⟩ : RO)  ({ cfgB with sigs := (sigC 86 (y2w yq) (sigC 23 (y2a ym) sigN)), plan := fun r => match r with | 4 => some (List.range 13, 0) | _ => none } : Cfg) Try.f54) (sigC 24 (y8p y0j) (sigC 21 (altNil (y6b y0k) (y8a y0y)) sigN)))),
  keep := fun r => match r with | 8 => some [(0, none), (5, none), (58, none), (59, none)] | _ => none,
  plan := fun r => match r with | 5 => some ([0, 1, 2, 3, 4, 5, 6, 7, 8, 9, 10, 11, 12, 13, 14, 15, 16, 17, 18, 19, 20, 21, 22, 23, 24, 25, 26, 27, 28, 29, 31, 32, 30, 33, 34, 35], 0) | _ => none }
def wk_model_Model_fresh : List WK := [⟨false, 1, [], 0, 70, false⟩]
noncomputable def y3r (y1j : yc → T_api_Reply → ye → (List Int) → (List (List Int)) → Option (Bool)) (yy : Int → yi → (List (List Int)) → Option (Bool × (List (List Int)))) (ym : Y6) (yq : Y4) : Cfg := { cfgB with
  sigs := (sigC 73 (ybk y1j) (sigC 74 (y75 yy) (sigC 54 (inlSR (⟨true, fun _ => false, fun i => Nat.beq i 0 || Nat.beq i 1⟩ : RO)  ({ cfgB with sigs := (sigC 86 (y2w yq) (sigC 23 (y2a ym) sigN)), plan := fun r => match r with | 4 => some (List.range 13, 0) | _ => none } : Cfg) Try.f54) sigN))),
  keep := fun r => match r with | 8 => some [(0, none), (5, none), (34, none), (35, none)] | _ => none,
  plan := fun r => match r with | 5 => some (List.range 12, 2) | _ => none }
def wk_model_Model_again : List WK := [⟨false, 1, [], 0, 70, false⟩]
noncomputable def y28 (y03 : Int → (List (List Int)) → Option (yi × Bool)) (yx : Y14) (yw : Y10) (yy : Int → yi → (List (List Int)) → Option (Bool × (List (List Int)))) (y01 : yc → T_api_Reply → ye → (List Int) → (List (List Int)) → Option (Bool × (List (List Int)) × (List Int))) (ym : Y6) (yq : Y4) (y0z : Y2) (y0i : Int → ye → (List Int) → (List (List Int)) → Option (Int)) (y0c : Int → (List (List Int)) → Option (Bool × (List (List Int)))) : Cfg := { cfgB with
  sigs := (sigC 75 (y5g y03) (sigC 76 (y53 yx) (sigC 77 (y9e yw) (sigC 74 (y75 yy) (sigC 36 (y5b y01) (sigC 54 (inlSR (⟨true, fun _ => false, fun i => Nat.beq i 0 || Nat.beq i 1⟩ : RO)  ({ cfgB with sigs := (sigC 86 (y2w yq) (sigC 23 (y2a ym) sigN)), plan := fun r => match r with | 4 => some (List.range 13, 0) | _ => none } : Cfg) Try.f54) (sigC 20 (altNil (y9o y0i) (y63 y0z)) (sigC 78 (y8b y0c) sigN)))))))),
  keep := fun r => match r with | 14 => some [(0, none), (4, none), (5, none), (68, none), (69, none)] | _ => none,
  plan := fun r => match r with | 4 => some ([0, 1, 3, 4, 2, 5, 6], 0) | 7 => some (List.range 12, 2) | 16 => some ([0, 1, 2, 3, 4, 6, 7, 8, 9, 10, 5, 11, 12, 13], 30786325577728) | 18 => some (List.range 7, 2) | _ => none,
  planT := fun r => match r with | 1 => some ((chainT [0, 1, 2, 3, 4, 5] (.alt (chainT [6, 7, 8, 9, 10, 11, 12] .fin) (chainT [10, 6, 7, 8, 9, 11, 12] .fin))), 272) | _ => none,
  flag := fun d => Nat.beq d 7 }
def wk_model_Model_free : List WK := [⟨false, 1, [], 0, 70, false⟩]
noncomputable def ybc (y03 : Int → (List (List Int)) → Option (yi × Bool)) (yx : Y14) (y0c : Int → (List (List Int)) → Option (Bool × (List (List Int)))) : Cfg := { cfgB with
  sigs := (sigC 75 (y5g y03) (sigC 76 (y53 yx) (sigC 78 (y8b y0c) sigN))),
  plan := fun r => match r with | 6 => some (List.range 7, 2) | _ => none,
  planT := fun r => match r with | 1 => some ((chainT [0, 1, 2, 3, 4, 5] (.alt (chainT [6, 7, 8, 9, 10, 11, 12] .fin) (chainT [10, 6, 7, 8, 9, 11, 12] .fin))), 272) | _ => none,
  flag := fun d => Nat.beq d 7 }
noncomputable def ydc (y03 : Int → (List (List Int)) → Option (yi × Bool)) (yx : Y14) : Cfg := { cfgB with
  sigs := (sigC 75 (y5g y03) (sigC 76 (y53 yx) sigN)),
  planT := fun r => match r with | 1 => some ((chainT [0, 1, 2, 3, 4, 5] (.alt (chainT [6, 7, 8, 9, 10, 11, 12] .fin) (chainT [10, 6, 7, 8, 9, 11, 12] .fin))), 272) | _ => none,
  flag := fun d => Nat.beq d 7 }
noncomputable def yak (y1a : Y20) (y3s : (List (List Int)) → (List Pr) → Option ((List Pr))) (y2s : yi → (List (List Int)) → Option (yi)) (y27 : Y25) (y1i : Y29) (yu : (List (List Int)) → Option (Int)) : Cfg := { cfgB with
  sigs := (sigC 79 (y7t y1a) (sigC 51 (altP 1 79 (yc4 y2s) (yc3 y3s)) (sigC 80 (yck y27) (sigC 40 (y57 y1i) (sigC 55 (y49 yu) sigN))))),
  plan := fun r => match r with | 4 => some (List.range 20, 0) | 6 => some (List.range 23, 0) | _ => none }
noncomputable def ycr (y0y : Y22) (y0k : Int → ye → (List Int) → (List (List Int)) → Option (Int × Int × Bool)) (yx : Y14) (y0z : Y2) (y0i : Int → ye → (List Int) → (List (List Int)) → Option (Int)) (ym : Y6) (yq : Y4) : Cfg := { cfgB with
  sigs := (sigC 21 (altNil (y6b y0k) (y8a y0y)) (sigC 76 (y53 yx) (sigC 20 (altNil (y9o y0i) (y63 y0z)) (sigC 54 (inlSR (⟨true, fun _ => false, fun i => Nat.beq i 0 || Nat.beq i 1⟩ : RO)  ({ cfgB with sigs := (sigC 86 (y2w yq) (sigC 23 (y2a ym) sigN)), plan := fun r => match r with | 4 => some (List.range 13, 0) | _ => none } : Cfg) Try.f54) sigN)))),
  plan := fun r => match r with | 5 => some (List.range 8, 0) | 8 => some ([0, 1, 2, 4, 5, 3, 6, 7], 17592186044416) | _ => none }
def wk_model_Model_Step : List WK := [⟨false, 1, [], 0, 70, false⟩]
noncomputable def yac (y22 : Y12) (y01 : yc → T_api_Reply → ye → (List Int) → (List (List Int)) → Option (Bool × (List (List Int)) × (List Int))) (y1x : yc → T_api_Reply → ye → (List Int) → (List (List Int)) → Option (Bool × (List (List Int)) × (List Int))) (y1y : yc → T_api_Reply → ye → (List Int) → (List (List Int)) → Option (Bool × (List (List Int)))) (y1w : yc → T_api_Reply → ye → (List Int) → (List (List Int)) → Option (Bool)) (y1i : Y29) (y20 : T_api_Reply → ye → (List Int) → (List (List Int)) → Option (Bool)) (y21 : yc → T_api_Reply → ye → (List Int) → (List (List Int)) → Option (Bool × (List Int))) : Cfg := { cfgB with
  sigs := (sigC 35 (y89 y22) (sigC 36 (y5b y01) (sigC 37 (y77 y1x) (sigC 38 (y5q y1y) (sigC 39 (y68 y1w) (sigC 40 (y57 y1i) (sigC 41 (y73 y20) (sigC 42 (y8o y21) sigN)))))))),
  plan := fun r => match r with | 25 => some (List.range 22, 0) | _ => none }
noncomputable def ye2 (y22 : Y12) (y01 : yc → T_api_Reply → ye → (List Int) → (List (List Int)) → Option (Bool × (List (List Int)) × (List Int))) (y1x : yc → T_api_Reply → ye → (List Int) → (List (List Int)) → Option (Bool × (List (List Int)) × (List Int))) (y1y : yc → T_api_Reply → ye → (List Int) → (List (List Int)) → Option (Bool × (List (List Int)))) (y1w : yc → T_api_Reply → ye → (List Int) → (List (List Int)) → Option (Bool)) (y1i : Y29) (y20 : T_api_Reply → ye → (List Int) → (List (List Int)) → Option (Bool)) (y21 : yc → T_api_Reply → ye → (List Int) → (List (List Int)) → Option (Bool × (List Int))) : Cfg := { cfgB with
  sigs := (sigC 35 (y89 y22) (sigC 36 (y5b y01) (sigC 37 (y77 y1x) (sigC 38 (y5q y1y) (sigC 39 (y68 y1w) (sigC 40 (y57 y1i) (sigC 41 (y73 y20) (sigC 42 (y8o y21) sigN)))))))),
  plan := fun r => match r with | 25 => some (List.range 22, 0) | _ => none }
theorem yfb (y1q : Y28) (y0j : Y6) (ym : Y6) (c : yb) (K : V → Heap → Prop) : (exFW (yb4 y1q y0j ym) [] wk_model_New Try.f10 [.agg (yl c)] [] K) = (
    So (y1q c) (fun (y0 : ye × Int) => (br (Prod.snd y0 != 0) (K (.tup [.ext (Go.Value.pointer Option.none), vi (Prod.snd y0)]) []) (So (y0j (Prod.fst y0)) (fun (y1 : Int) => (So (ym (Prod.fst y0)) (fun (y2 : Int) => (Req (Decidable.decide (0 ≤ IntKind.wrap IntKind.i64 (y1 - y2) ∧ IntKind.wrap IntKind.i64 (y1 - y2) ≤ IntKind.wrap IntKind.i64 (y1 - y2) ∧ IntKind.wrap IntKind.i64 (y1 - y2) ≤ 1048576)) (K (.tup [.ptr 0 0, vi (0)]) [.cells 0 (yk (Prod.fst y0) ++ [.ptr 1 0, .row 2]), .cells 0 [.row 3], .row 0 (List.replicate (Int.toNat (IntKind.wrap IntKind.i64 (y1 - y2))) (0 : Int) : List (Int)) Bool.false, .row 70 ([] : List (List Int)) Bool.false]))))))))) := by
  kernel_rfl
theorem yjn (y2r : Y18) (size : Int) (align : Int) (K : V → Heap → Prop) : (exF (ydj y2r) Try.f77 [vi size, vi align] [] K) = (
    br (Decidable.decide (size > 1048576)) (K (vi (0)) []) (So (y2r size align) (fun (y0 : Int × Int) => (K (vi (Prod.fst y0)) [])))) := by
  kernel_rfl
theorem yf7 (rv : T_api_Reply) (K : V → Heap → Prop) : (exF ydv Try.f76 [.agg (y07 rv)] [] K) = (
    K (vb (T_api_Reply.Err rv == 7 && (T_api_Reply.Addr rv == 0 && (T_api_Reply.Size rv == 0 && (T_api_Reply.Value rv == 0 && (ya.Blocks (T_api_Reply.Stats rv) == 0 && (ya.Asked (T_api_Reply.Stats rv) == 0 && (ya.Words (T_api_Reply.Stats rv) == 0 && (ya.Kept (T_api_Reply.Stats rv) == 0 && (ya.Open (T_api_Reply.Stats rv) == 0 && (ya.Mapped (T_api_Reply.Stats rv) == 0 && (ya.Used (T_api_Reply.Stats rv) == 0 && Bool.true)))))) && Bool.true)))))) []) := by
  kernel_rfl
theorem yh3 (ym : Y6) (yq : Y4) (a : Int) (m_lv : ye) (yg : List Int) (yf : List (List Int)) (K : V → Heap → Prop) : (exF (ye8 ym yq) Try.f20 [.ptr 0 0, vi a] [.rcells (yk m_lv ++ [.ptr 1 0, .row 2]), .rcells [.row 3], .row 0 yg true, .row 70 yf true] K) = (
    So (yq m_lv a) (fun (y0 : Int × Int × Bool) => (br (!Prod.snd (Prod.snd y0)) (K (vi (0)) [.rcells (yk m_lv ++ [.ptr 1 0, .row 2]), .rcells [.row 3], .row 0 (yg : List (Int)) Bool.true, .row 70 (yf : List (List Int)) Bool.true]) (So (ym m_lv) (fun (y1 : Int) => (Req (inR (IntKind.wrap IntKind.i64 (a - y1)) (List.length yg)) (Req (inR (offs (IntKind.wrap IntKind.i64 (a - y1)) 0) (List.length yg)) (K (vi (List.getD yg (Int.toNat (offs (IntKind.wrap IntKind.i64 (a - y1)) 0)) 0)) [.rcells (yk m_lv ++ [.ptr 1 0, .row 2]), .rcells [.row 3], .row 0 (yg : List (Int)) Bool.true, .row 70 (yf : List (List Int)) Bool.true])))))))) := by
  kernel_rfl
theorem yj4 (ym : Y6) (yq : Y4) (a : Int) (K : V → Heap → Prop) : (exF (ya4 ym yq) Try.f20 [.ext (.pointer none), vi a] [] K) = (
    K (vi (0)) []) := by
  kernel_rfl
theorem yj8 (yu : (List (List Int)) → Option (Int)) (y0x : Int → (List (List Int)) → Option (Int × yi × Bool)) (a : Int) (m_lv : ye) (yg : List Int) (yf : List (List Int)) (iv : Int) (K : V → Heap → Prop) (J1 : Env → Heap → Prop) : (ex (y3g yu y0x) (⟨46, 4⟩ : Cx) (at_ (bodyOf Try.f21) [1, 0, 1, 1, 1, 0, 0, 0]) (mkEnv [(0, .ptr 0 0), (1, vi (a)), (7, vi (iv))]) [.rcells (yk m_lv ++ [.ptr 1 0, .row 2]), .rcells [.row 3], .row 0 (yg : List (Int)) Bool.true, .row 70 (yf : List (List Int)) Bool.true] (roundK (y3g yu y0x) (⟨46, 4⟩ : Cx) (at_ (bodyOf Try.f21) [1, 0, 1, 1, 1, 0, 0, 0]) (contK (y3g yu y0x) (⟨46, 4⟩ : Cx) (bodyOf Try.f21) [1, 0, 1, 1, 1, 0, 0] (retK (y3g yu y0x) Try.f21 4 K)) J1)) = (
    So (yu yf) (fun (y0 : Int) => (br (Decidable.decide (iv < y0)) (So (y0x iv yf) (fun (y1 : Int × yi × Bool) => (br (Decidable.decide (Prod.fst y1 > a)) (K (.tup [vi (0), vi (0), vb (Bool.false)]) [.rcells (yk m_lv ++ [.ptr 1 0, .row 2]), .rcells [.row 3], .row 0 (yg : List (Int)) Bool.true, .row 70 (yf : List (List Int)) Bool.true]) (br (Decidable.decide (IntKind.wrap IntKind.i64 (a - Prod.fst y1) < yi.words (Prod.fst (Prod.snd y1)))) (K (.tup [vi (Prod.fst y1), vi (yi.words (Prod.fst (Prod.snd y1))), vb (Bool.true)]) [.rcells (yk m_lv ++ [.ptr 1 0, .row 2]), .rcells [.row 3], .row 0 (yg : List (Int)) Bool.true, .row 70 (yf : List (List Int)) Bool.true]) (J1 (mkEnv [(0, .ptr 0 0), (1, vi (a)), (7, vi (IntKind.wrap IntKind.i64 (iv + 1)))]) [.rcells (yk m_lv ++ [.ptr 1 0, .row 2]), .rcells [.row 3], .row 0 (yg : List (Int)) Bool.true, .row 70 (yf : List (List Int)) Bool.true]))))) (K (.tup [vi (0), vi (0), vb (Bool.false)]) [.rcells (yk m_lv ++ [.ptr 1 0, .row 2]), .rcells [.row 3], .row 0 (yg : List (Int)) Bool.true, .row 70 (yf : List (List Int)) Bool.true])))) := by
  kernel_rfl
theorem yjd (yu : (List (List Int)) → Option (Int)) (y0x : Int → (List (List Int)) → Option (Int × yi × Bool)) (a : Int) (m_lv : ye) (yg : List Int) (yf : List (List Int)) (K : V → Heap → Prop) : (exF (y3g yu y0x) Try.f21 [.ptr 0 0, vi a] [.rcells (yk m_lv ++ [.ptr 1 0, .row 2]), .rcells [.row 3], .row 0 yg true, .row 70 yf true] K) = (
    Loop (y3g yu y0x) (⟨46, 4⟩ : Cx) (at_ (bodyOf Try.f21) [1, 0, 1, 1, 1, 0, 0, 0]) (mkEnv [(0, .ptr 0 0), (1, vi (a)), (7, vi (0))]) [.rcells (yk m_lv ++ [.ptr 1 0, .row 2]), .rcells [.row 3], .row 0 (yg : List (Int)) Bool.true, .row 70 (yf : List (List Int)) Bool.true] (contK (y3g yu y0x) (⟨46, 4⟩ : Cx) (bodyOf Try.f21) [1, 0, 1, 1, 1, 0, 0] (retK (y3g yu y0x) Try.f21 4 K))) := by
  kernel_rfl
theorem yic (yu : (List (List Int)) → Option (Int)) (y0x : Int → (List (List Int)) → Option (Int × yi × Bool)) (a : Int) (K : V → Heap → Prop) : (exF (yc7 yu y0x) Try.f21 [.ext (.pointer none), vi a] [] K) = (
    K (.tup [vi (0), vi (0), vb (Bool.false)]) []) := by
  kernel_rfl
theorem ygj (yw : Y10) (ym : Y6) (yq : Y4) (y0j : Y6) (y0y : Y22) (y0k : Int → ye → (List Int) → (List (List Int)) → Option (Int × Int × Bool)) (c : yc) (rv : T_api_Reply) (m_lv : ye) (yg : List Int) (yf : List (List Int)) (t58 : Int) (t59 : Int) (K : V → Heap → Prop) (J1 : Env → Heap → Prop) : (ex (y2e yw ym yq y0j y0y y0k) (⟨74, 4⟩ : Cx) (at_ (bodyOf Try.f73) [1, 1, 1, 1, 1, 0, 1, 0, 0]) (mkEnv [(0, .ptr 0 0), (5, .ptr 4 0), (58, vi (t58)), (59, vi (t59))]) [.rcells (yk m_lv ++ [.ptr 1 0, .row 2]), .rcells [.row 3], .row 0 (yg : List (Int)) Bool.true, .row 70 (yf : List (List Int)) Bool.true, .cells 46 (y07 rv)] (roundK (y2e yw ym yq y0j y0y y0k) (⟨74, 4⟩ : Cx) (at_ (bodyOf Try.f73) [1, 1, 1, 1, 1, 0, 1, 0, 0]) (contK (y2e yw ym yq y0j y0y y0k) (⟨74, 4⟩ : Cx) (bodyOf Try.f73) [1, 1, 1, 1, 1, 0, 1, 0] (retK (y2e yw ym yq y0j y0y y0k) Try.f73 4 K)) J1)) = (
    br (Decidable.decide (t59 < t58)) (So (y0k (IntKind.wrap IntKind.i64 (T_api_Reply.Addr rv + t59)) m_lv yg yf) (fun (y0 : Int × Int × Bool) => (br (Prod.snd (Prod.snd y0)) (K (vb (Bool.false)) [.rcells (yk m_lv ++ [.ptr 1 0, .row 2]), .rcells [.row 3], .row 0 (yg : List (Int)) Bool.true, .row 70 (yf : List (List Int)) Bool.true]) (J1 (mkEnv [(0, .ptr 0 0), (5, .ptr 4 0), (58, vi (t58)), (59, vi (IntKind.wrap IntKind.i64 (t59 + 1)))]) [.rcells (yk m_lv ++ [.ptr 1 0, .row 2]), .rcells [.row 3], .row 0 (yg : List (Int)) Bool.true, .row 70 (yf : List (List Int)) Bool.true, .cells 46 (y07 rv)])))) (K (vb (Bool.true)) [.rcells (yk m_lv ++ [.ptr 1 0, .row 2]), .rcells [.row 3], .row 0 (yg : List (Int)) Bool.true, .row 70 (yf : List (List Int)) Bool.true])) := by
  kernel_rfl
theorem yhi (yw : Y10) (ym : Y6) (yq : Y4) (y0j : Y6) (y0y : Y22) (y0k : Int → ye → (List Int) → (List (List Int)) → Option (Int × Int × Bool)) (c : yc) (rv : T_api_Reply) (m_lv : ye) (yg : List Int) (yf : List (List Int)) (K : V → Heap → Prop) : (exF (y2e yw ym yq y0j y0y y0k) Try.f73 [.ptr 0 0, .agg (y0p c), .agg (y07 rv)] [.rcells (yk m_lv ++ [.ptr 1 0, .row 2]), .rcells [.row 3], .row 0 yg true, .row 70 yf true] K) = (
    br (yc.Kind c == 5) (So (yw (yc.Size c) (yc.Align c)) (fun (y0 : Int) => (br (!(T_api_Reply.Err rv == 0 && (T_api_Reply.Addr rv == T_api_Reply.Addr rv && (T_api_Reply.Size rv == y0 && (T_api_Reply.Value rv == 0 && (ya.Blocks (T_api_Reply.Stats rv) == 0 && (ya.Asked (T_api_Reply.Stats rv) == 0 && (ya.Words (T_api_Reply.Stats rv) == 0 && (ya.Kept (T_api_Reply.Stats rv) == 0 && (ya.Open (T_api_Reply.Stats rv) == 0 && (ya.Mapped (T_api_Reply.Stats rv) == 0 && (ya.Used (T_api_Reply.Stats rv) == 0 && Bool.true)))))) && Bool.true)))))) (K (vb (Bool.false)) [.rcells (yk m_lv ++ [.ptr 1 0, .row 2]), .rcells [.row 3], .row 0 (yg : List (Int)) Bool.true, .row 70 (yf : List (List Int)) Bool.true]) (br (y0 == 0) (K (vb (Bool.false)) [.rcells (yk m_lv ++ [.ptr 1 0, .row 2]), .rcells [.row 3], .row 0 (yg : List (Int)) Bool.true, .row 70 (yf : List (List Int)) Bool.true]) (Req (!yc.Align c == 0) (br (Int.tmod (T_api_Reply.Addr rv) (yc.Align c) != 0) (K (vb (Bool.false)) [.rcells (yk m_lv ++ [.ptr 1 0, .row 2]), .rcells [.row 3], .row 0 (yg : List (Int)) Bool.true, .row 70 (yf : List (List Int)) Bool.true]) (So (yq m_lv (T_api_Reply.Addr rv)) (fun (y1 : Int × Int × Bool) => (br (!Prod.snd (Prod.snd y1)) (K (vb (Bool.false)) [.rcells (yk m_lv ++ [.ptr 1 0, .row 2]), .rcells [.row 3], .row 0 (yg : List (Int)) Bool.true, .row 70 (yf : List (List Int)) Bool.true]) (So (ym m_lv) (fun (y2 : Int) => (Req (inR (IntKind.wrap IntKind.i64 (T_api_Reply.Addr rv - y2)) (List.length yg)) (So (y0j m_lv) (fun (y3 : Int) => (br (Decidable.decide (y0 > IntKind.wrap IntKind.i64 (y3 - T_api_Reply.Addr rv))) (K (vb (Bool.false)) [.rcells (yk m_lv ++ [.ptr 1 0, .row 2]), .rcells [.row 3], .row 0 (yg : List (Int)) Bool.true, .row 70 (yf : List (List Int)) Bool.true]) (Loop (y2e yw ym yq y0j y0y y0k) (⟨74, 4⟩ : Cx) (at_ (bodyOf Try.f73) [1, 1, 1, 1, 1, 0, 1, 0, 0]) (mkEnv [(0, .ptr 0 0), (5, .ptr 4 0), (58, vi (y0)), (59, vi (0))]) [.rcells (yk m_lv ++ [.ptr 1 0, .row 2]), .rcells [.row 3], .row 0 (yg : List (Int)) Bool.true, .row 70 (yf : List (List Int)) Bool.true, .cells 46 (y07 rv)] (contK (y2e yw ym yq y0j y0y y0k) (⟨74, 4⟩ : Cx) (bodyOf Try.f73) [1, 1, 1, 1, 1, 0, 1, 0] (retK (y2e yw ym yq y0j y0y y0k) Try.f73 4 K)))))))))))))))))) (So (yw (yc.Size c) 1) (fun (y4 : Int) => (br (!(T_api_Reply.Err rv == 0 && (T_api_Reply.Addr rv == T_api_Reply.Addr rv && (T_api_Reply.Size rv == y4 && (T_api_Reply.Value rv == 0 && (ya.Blocks (T_api_Reply.Stats rv) == 0 && (ya.Asked (T_api_Reply.Stats rv) == 0 && (ya.Words (T_api_Reply.Stats rv) == 0 && (ya.Kept (T_api_Reply.Stats rv) == 0 && (ya.Open (T_api_Reply.Stats rv) == 0 && (ya.Mapped (T_api_Reply.Stats rv) == 0 && (ya.Used (T_api_Reply.Stats rv) == 0 && Bool.true)))))) && Bool.true)))))) (K (vb (Bool.false)) [.rcells (yk m_lv ++ [.ptr 1 0, .row 2]), .rcells [.row 3], .row 0 (yg : List (Int)) Bool.true, .row 70 (yf : List (List Int)) Bool.true]) (br (y4 == 0) (K (vb (Bool.false)) [.rcells (yk m_lv ++ [.ptr 1 0, .row 2]), .rcells [.row 3], .row 0 (yg : List (Int)) Bool.true, .row 70 (yf : List (List Int)) Bool.true]) (br (Int.tmod (T_api_Reply.Addr rv) 1 != 0) (K (vb (Bool.false)) [.rcells (yk m_lv ++ [.ptr 1 0, .row 2]), .rcells [.row 3], .row 0 (yg : List (Int)) Bool.true, .row 70 (yf : List (List Int)) Bool.true]) (So (yq m_lv (T_api_Reply.Addr rv)) (fun (y5 : Int × Int × Bool) => (br (!Prod.snd (Prod.snd y5)) (K (vb (Bool.false)) [.rcells (yk m_lv ++ [.ptr 1 0, .row 2]), .rcells [.row 3], .row 0 (yg : List (Int)) Bool.true, .row 70 (yf : List (List Int)) Bool.true]) (So (ym m_lv) (fun (y6 : Int) => (Req (inR (IntKind.wrap IntKind.i64 (T_api_Reply.Addr rv - y6)) (List.length yg)) (So (y0j m_lv) (fun (y7 : Int) => (br (Decidable.decide (y4 > IntKind.wrap IntKind.i64 (y7 - T_api_Reply.Addr rv))) (K (vb (Bool.false)) [.rcells (yk m_lv ++ [.ptr 1 0, .row 2]), .rcells [.row 3], .row 0 (yg : List (Int)) Bool.true, .row 70 (yf : List (List Int)) Bool.true]) (Loop (y2e yw ym yq y0j y0y y0k) (⟨74, 4⟩ : Cx) (at_ (bodyOf Try.f73) [1, 1, 1, 1, 1, 0, 1, 0, 0]) (mkEnv [(0, .ptr 0 0), (5, .ptr 4 0), (58, vi (y4)), (59, vi (0))]) [.rcells (yk m_lv ++ [.ptr 1 0, .row 2]), .rcells [.row 3], .row 0 (yg : List (Int)) Bool.true, .row 70 (yf : List (List Int)) Bool.true, .cells 46 (y07 rv)] (contK (y2e yw ym yq y0j y0y y0k) (⟨74, 4⟩ : Cx) (bodyOf Try.f73) [1, 1, 1, 1, 1, 0, 1, 0] (retK (y2e yw ym yq y0j y0y y0k) Try.f73 4 K)))))))))))))))))) := by
  kernel_rfl
theorem yis (y1j : yc → T_api_Reply → ye → (List Int) → (List (List Int)) → Option (Bool)) (yy : Int → yi → (List (List Int)) → Option (Bool × (List (List Int)))) (ym : Y6) (yq : Y4) (c : yc) (rv : T_api_Reply) (m_lv : ye) (yg : List Int) (yf : List (List Int)) (U : TypeId) (t35 : Int) (y0d : List Int) (w : List (List Int)) (K : V → Heap → Prop) (J1 : Env → Heap → Prop) : (ex (y3r y1j yy ym yq) (⟨46, 4⟩ : Cx) (at_ (bodyOf Try.f36) [1, 1, 1, 0, 1, 0, 1, 0, 0]) (mkEnv [(0, .ptr 0 0), (5, .ptr 4 0), (34, vi (Go.Rx.T_api_Reply.Size rv)), (35, vi (t35))]) [.rcells (yk m_lv ++ [.ptr 1 0, .row 2]), .cells U [.row 5], .row 0 (y0d : List (Int)) Bool.false, .dead, .cells 46 (y07 rv), .row 70 (w : List (List Int)) Bool.false] (roundK (y3r y1j yy ym yq) (⟨46, 4⟩ : Cx) (at_ (bodyOf Try.f36) [1, 1, 1, 0, 1, 0, 1, 0, 0]) (contK (y3r y1j yy ym yq) (⟨46, 4⟩ : Cx) (bodyOf Try.f36) [1, 1, 1, 0, 1, 0, 1, 0] (retW (y3r y1j yy ym yq) wk_model_Model_fresh Try.f36 4 K)) J1)) = (
    br (Decidable.decide (t35 < T_api_Reply.Size rv)) (So (yq m_lv (IntKind.wrap IntKind.i64 (T_api_Reply.Addr rv + t35))) (fun (y0 : Int × Int × Bool) => (br (!Prod.snd (Prod.snd y0)) (False) (So (ym m_lv) (fun (y1 : Int) => (Req (inR (IntKind.wrap IntKind.i64 (IntKind.wrap IntKind.i64 (T_api_Reply.Addr rv + t35) - y1)) (List.length y0d)) (Req (inR (offs (IntKind.wrap IntKind.i64 (IntKind.wrap IntKind.i64 (T_api_Reply.Addr rv + t35) - y1)) 0) (List.length y0d)) (J1 (mkEnv [(0, .ptr 0 0), (5, .ptr 4 0), (34, vi (T_api_Reply.Size rv)), (35, vi (IntKind.wrap IntKind.i64 (t35 + 1)))]) [.rcells (yk m_lv ++ [.ptr 1 0, .row 2]), .cells U [.row 5], .row 0 (List.set y0d (Int.toNat (offs (IntKind.wrap IntKind.i64 (IntKind.wrap IntKind.i64 (T_api_Reply.Addr rv + t35) - y1)) 0)) 0 : List (Int)) Bool.false, .dead, .cells 46 (y07 rv), .row 70 (w : List (List Int)) Bool.false])))))))) (K (vb (Bool.true)) [.rcells (yk m_lv ++ [.ptr 1 0, .row 2]), .cells U [.row 4], .row 0 (y0d : List (Int)) Bool.false, .dead, .row 70 (w : List (List Int)) Bool.false])) := by
  kernel_rfl
theorem yej (y1j : yc → T_api_Reply → ye → (List Int) → (List (List Int)) → Option (Bool)) (yy : Int → yi → (List (List Int)) → Option (Bool × (List (List Int)))) (ym : Y6) (yq : Y4) (c : yc) (rv : T_api_Reply) (m_lv : ye) (yg : List Int) (yf : List (List Int)) (U : TypeId) (K : V → Heap → Prop) : (exFW (y3r y1j yy ym yq) [] wk_model_Model_fresh Try.f36 [.ptr 0 0, .agg (y0p c), .agg (y07 rv)] [.rcells (yk m_lv ++ [.ptr 1 0, .row 2]), .cells U [.row 3], .row 0 yg false, .row 70 yf false] K) = (
    br (T_api_Reply.Err rv == 6 && (T_api_Reply.Addr rv == 0 && (T_api_Reply.Size rv == 0 && (T_api_Reply.Value rv == 0 && (ya.Blocks (T_api_Reply.Stats rv) == 0 && (ya.Asked (T_api_Reply.Stats rv) == 0 && (ya.Words (T_api_Reply.Stats rv) == 0 && (ya.Kept (T_api_Reply.Stats rv) == 0 && (ya.Open (T_api_Reply.Stats rv) == 0 && (ya.Mapped (T_api_Reply.Stats rv) == 0 && (ya.Used (T_api_Reply.Stats rv) == 0 && Bool.true)))))) && Bool.true))))) (K (vb (Bool.true)) [.rcells (yk m_lv ++ [.ptr 1 0, .row 2]), .cells U [.row 4], .row 0 (yg : List (Int)) Bool.false, .dead, .row 70 (yf : List (List Int)) Bool.false]) (So (y1j c rv m_lv yg yf) (fun (y0 : Bool) => (br (!y0) (K (vb (Bool.false)) [.rcells (yk m_lv ++ [.ptr 1 0, .row 2]), .cells U [.row 4], .row 0 (yg : List (Int)) Bool.false, .dead, .row 70 (yf : List (List Int)) Bool.false]) (So (yy (T_api_Reply.Addr rv) (yi.mk (yc.Size c) (T_api_Reply.Size rv)) yf) (fun (y1 : Bool × List (List Int)) => (br (yc.Kind c == 3) (Loop (y3r y1j yy ym yq) (⟨46, 4⟩ : Cx) (at_ (bodyOf Try.f36) [1, 1, 1, 0, 1, 0, 1, 0, 0]) (mkEnv [(0, .ptr 0 0), (5, .ptr 4 0), (34, vi (T_api_Reply.Size rv)), (35, vi (0))]) [.rcells (yk m_lv ++ [.ptr 1 0, .row 2]), .cells U [.row 5], .row 0 (yg : List (Int)) Bool.false, .dead, .cells 46 (y07 rv), .row 70 (Prod.snd y1 : List (List Int)) Bool.false] (contK (y3r y1j yy ym yq) (⟨46, 4⟩ : Cx) (bodyOf Try.f36) [1, 1, 1, 0, 1, 0, 1, 0] (retW (y3r y1j yy ym yq) wk_model_Model_fresh Try.f36 4 K))) (K (vb (Bool.true)) [.rcells (yk m_lv ++ [.ptr 1 0, .row 2]), .cells U [.row 4], .row 0 (yg : List (Int)) Bool.false, .dead, .row 70 (Prod.snd y1 : List (List Int)) Bool.false])))))))) := by
  kernel_rfl
theorem yh4 (y03 : Int → (List (List Int)) → Option (yi × Bool)) (yx : Y14) (yw : Y10) (yy : Int → yi → (List (List Int)) → Option (Bool × (List (List Int)))) (y01 : yc → T_api_Reply → ye → (List Int) → (List (List Int)) → Option (Bool × (List (List Int)) × (List Int))) (ym : Y6) (yq : Y4) (y0z : Y2) (y0i : Int → ye → (List Int) → (List (List Int)) → Option (Int)) (y0c : Int → (List (List Int)) → Option (Bool × (List (List Int)))) (c : yc) (rv : T_api_Reply) (m_lv : ye) (yg : List Int) (yf : List (List Int)) (U : TypeId) (t68 : Int) (t69 : Int) (y0d : List Int) (w : List (List Int)) (K : V → Heap → Prop) (J1 : Env → Heap → Prop) : (ex (y28 y03 yx yw yy y01 ym yq y0z y0i y0c) (⟨93, 4⟩ : Cx) (at_ (bodyOf Try.f37) [1, 1, 1, 0, 1, 0, 0]) (mkEnv [(0, .ptr 0 0), (4, .ptr 4 0), (5, .ptr 5 0), (68, vi (t68)), (69, vi (t69))]) [.rcells (yk m_lv ++ [.ptr 1 0, .row 2]), .cells U [.row 6], .row 0 (y0d : List (Int)) Bool.false, .dead, .cells 42 (y0p c), .cells 46 (y07 rv), .row 70 (w : List (List Int)) Bool.false] (roundK (y28 y03 yx yw yy y01 ym yq y0z y0i y0c) (⟨93, 4⟩ : Cx) (at_ (bodyOf Try.f37) [1, 1, 1, 0, 1, 0, 0]) (contK (y28 y03 yx yw yy y01 ym yq y0z y0i y0c) (⟨93, 4⟩ : Cx) (bodyOf Try.f37) [1, 1, 1, 0, 1, 0] (retW (y28 y03 yx yw yy y01 ym yq y0z y0i y0c) wk_model_Model_again Try.f37 4 K)) J1)) = (
    br (Decidable.decide (t69 < t68)) (So (yq m_lv (IntKind.wrap IntKind.i64 (T_api_Reply.Addr rv + t69))) (fun (y0 : Int × Int × Bool) => (br (!Prod.snd (Prod.snd y0)) (So (y0i (IntKind.wrap IntKind.i64 (yc.Addr c + t69)) m_lv y0d w) (fun (y1 : Int) => (False))) (So (ym m_lv) (fun (y2 : Int) => (Req (inR (IntKind.wrap IntKind.i64 (IntKind.wrap IntKind.i64 (T_api_Reply.Addr rv + t69) - y2)) (List.length y0d)) (So (y0i (IntKind.wrap IntKind.i64 (yc.Addr c + t69)) m_lv y0d w) (fun (y3 : Int) => (Req (inR (offs (IntKind.wrap IntKind.i64 (IntKind.wrap IntKind.i64 (T_api_Reply.Addr rv + t69) - y2)) 0) (List.length y0d)) (J1 (mkEnv [(0, .ptr 0 0), (4, .ptr 4 0), (5, .ptr 5 0), (68, vi (t68)), (69, vi (IntKind.wrap IntKind.i64 (t69 + 1)))]) [.rcells (yk m_lv ++ [.ptr 1 0, .row 2]), .cells U [.row 6], .row 0 (List.set y0d (Int.toNat (offs (IntKind.wrap IntKind.i64 (IntKind.wrap IntKind.i64 (T_api_Reply.Addr rv + t69) - y2)) 0)) y3 : List (Int)) Bool.false, .dead, .cells 42 (y0p c), .cells 46 (y07 rv), .row 70 (w : List (List Int)) Bool.false])))))))))) (So (y0c (yc.Addr c) w) (fun (y4 : Bool × List (List Int)) => (K (vb (Bool.true)) [.rcells (yk m_lv ++ [.ptr 1 0, .row 2]), .cells U [.row 4], .row 0 (y0d : List (Int)) Bool.false, .dead, .row 70 (Prod.snd y4 : List (List Int)) Bool.false])))) := by
  kernel_rfl
theorem yjg (y03 : Int → (List (List Int)) → Option (yi × Bool)) (yx : Y14) (yw : Y10) (yy : Int → yi → (List (List Int)) → Option (Bool × (List (List Int)))) (y01 : yc → T_api_Reply → ye → (List Int) → (List (List Int)) → Option (Bool × (List (List Int)) × (List Int))) (ym : Y6) (yq : Y4) (y0z : Y2) (y0i : Int → ye → (List Int) → (List (List Int)) → Option (Int)) (y0c : Int → (List (List Int)) → Option (Bool × (List (List Int)))) (c : yc) (rv : T_api_Reply) (m_lv : ye) (yg : List Int) (yf : List (List Int)) (U : TypeId) (K : V → Heap → Prop) : (exFW (y28 y03 yx yw yy y01 ym yq y0z y0i y0c) [] wk_model_Model_again Try.f37 [.ptr 0 0, .agg (y0p c), .agg (y07 rv)] [.rcells (yk m_lv ++ [.ptr 1 0, .row 2]), .cells U [.row 3], .row 0 yg false, .row 70 yf false] K) = (
    ((So (y03 (yc.Addr c) yf) (fun (y0 : yi × Bool) => (br (!Prod.snd y0) (So (yx rv) (fun (y1 : Bool) => (K (vb (y1)) [.rcells (yk m_lv ++ [.ptr 1 0, .row 2]), .cells U [.row 4], .row 0 (yg : List (Int)) Bool.false, .dead, .row 70 (yf : List (List Int)) Bool.false]))) (So (yw (yc.Size c) 1) (fun (y2 : Int) => (br (y2 == yi.words (Prod.fst y0)) (br (T_api_Reply.Err rv == 0 && (T_api_Reply.Addr rv == yc.Addr c && (T_api_Reply.Size rv == yi.words (Prod.fst y0) && (T_api_Reply.Value rv == 0 && (ya.Blocks (T_api_Reply.Stats rv) == 0 && (ya.Asked (T_api_Reply.Stats rv) == 0 && (ya.Words (T_api_Reply.Stats rv) == 0 && (ya.Kept (T_api_Reply.Stats rv) == 0 && (ya.Open (T_api_Reply.Stats rv) == 0 && (ya.Mapped (T_api_Reply.Stats rv) == 0 && (ya.Used (T_api_Reply.Stats rv) == 0 && Bool.true)))))) && Bool.true))))) (So (yy (yc.Addr c) (yi.mk (yc.Size c) (yi.words (Prod.fst y0))) yf) (fun (y3 : Bool × List (List Int)) => (K (vb (T_api_Reply.Err rv == 0 && (T_api_Reply.Addr rv == yc.Addr c && (T_api_Reply.Size rv == yi.words (Prod.fst y0) && (T_api_Reply.Value rv == 0 && (ya.Blocks (T_api_Reply.Stats rv) == 0 && (ya.Asked (T_api_Reply.Stats rv) == 0 && (ya.Words (T_api_Reply.Stats rv) == 0 && (ya.Kept (T_api_Reply.Stats rv) == 0 && (ya.Open (T_api_Reply.Stats rv) == 0 && (ya.Mapped (T_api_Reply.Stats rv) == 0 && (ya.Used (T_api_Reply.Stats rv) == 0 && Bool.true)))))) && Bool.true)))))) [.rcells (yk m_lv ++ [.ptr 1 0, .row 2]), .cells U [.row 4], .row 0 (yg : List (Int)) Bool.false, .dead, .row 70 (Prod.snd y3 : List (List Int)) Bool.false]))) (K (vb (T_api_Reply.Err rv == 0 && (T_api_Reply.Addr rv == yc.Addr c && (T_api_Reply.Size rv == yi.words (Prod.fst y0) && (T_api_Reply.Value rv == 0 && (ya.Blocks (T_api_Reply.Stats rv) == 0 && (ya.Asked (T_api_Reply.Stats rv) == 0 && (ya.Words (T_api_Reply.Stats rv) == 0 && (ya.Kept (T_api_Reply.Stats rv) == 0 && (ya.Open (T_api_Reply.Stats rv) == 0 && (ya.Mapped (T_api_Reply.Stats rv) == 0 && (ya.Used (T_api_Reply.Stats rv) == 0 && Bool.true)))))) && Bool.true)))))) [.rcells (yk m_lv ++ [.ptr 1 0, .row 2]), .cells U [.row 4], .row 0 (yg : List (Int)) Bool.false, .dead, .row 70 (yf : List (List Int)) Bool.false])) (So (y01 c rv m_lv yg yf) (fun (y4 : Bool × List (List Int) × List Int) => (br (!Prod.fst y4) (K (vb (Bool.false)) [.rcells (yk m_lv ++ [.ptr 1 0, .row 2]), .cells U [.row 4], .row 0 (Prod.snd (Prod.snd y4) : List (Int)) Bool.false, .dead, .row 70 (Prod.fst (Prod.snd y4) : List (List Int)) Bool.false]) (br (T_api_Reply.Err rv != 0) (K (vb (Bool.true)) [.rcells (yk m_lv ++ [.ptr 1 0, .row 2]), .cells U [.row 4], .row 0 (Prod.snd (Prod.snd y4) : List (Int)) Bool.false, .dead, .row 70 (Prod.fst (Prod.snd y4) : List (List Int)) Bool.false]) (Loop (y28 y03 yx yw yy y01 ym yq y0z y0i y0c) (⟨93, 4⟩ : Cx) (at_ (bodyOf Try.f37) [1, 1, 1, 0, 1, 0, 0]) (mkEnv [(0, .ptr 0 0), (4, .ptr 4 0), (5, .ptr 5 0), (68, vi (if yc.Size c < yi.asked (Prod.fst y0) then yc.Size c else yi.asked (Prod.fst y0))), (69, vi (0))]) [.rcells (yk m_lv ++ [.ptr 1 0, .row 2]), .cells U [.row 6], .row 0 (Prod.snd (Prod.snd y4) : List (Int)) Bool.false, .dead, .cells 42 (y0p c), .cells 46 (y07 rv), .row 70 (Prod.fst (Prod.snd y4) : List (List Int)) Bool.false] (contK (y28 y03 yx yw yy y01 ym yq y0z y0i y0c) (⟨93, 4⟩ : Cx) (bodyOf Try.f37) [1, 1, 1, 0, 1, 0] (retW (y28 y03 yx yw yy y01 ym yq y0z y0i y0c) wk_model_Model_again Try.f37 4 K))))))))))))) ∧ (So (y03 (yc.Addr c) yf) (fun (y5 : yi × Bool) => (br (!Prod.snd y5) (So (yx rv) (fun (y6 : Bool) => (K (vb (y6)) [.rcells (yk m_lv ++ [.ptr 1 0, .row 2]), .cells U [.row 4], .row 0 (yg : List (Int)) Bool.false, .dead, .row 70 (yf : List (List Int)) Bool.false]))) (So (yw (yc.Size c) 1) (fun (y7 : Int) => (br (y7 == yi.words (Prod.fst y5)) (br (T_api_Reply.Err rv == 0 && (T_api_Reply.Addr rv == yc.Addr c && (T_api_Reply.Size rv == yi.words (Prod.fst y5) && (T_api_Reply.Value rv == 0 && (ya.Blocks (T_api_Reply.Stats rv) == 0 && (ya.Asked (T_api_Reply.Stats rv) == 0 && (ya.Words (T_api_Reply.Stats rv) == 0 && (ya.Kept (T_api_Reply.Stats rv) == 0 && (ya.Open (T_api_Reply.Stats rv) == 0 && (ya.Mapped (T_api_Reply.Stats rv) == 0 && (ya.Used (T_api_Reply.Stats rv) == 0 && Bool.true)))))) && Bool.true))))) (So (yy (yc.Addr c) (yi.mk (yc.Size c) (yi.words (Prod.fst y5))) yf) (fun (y8 : Bool × List (List Int)) => (K (vb (T_api_Reply.Err rv == 0 && (T_api_Reply.Addr rv == yc.Addr c && (T_api_Reply.Size rv == yi.words (Prod.fst y5) && (T_api_Reply.Value rv == 0 && (ya.Blocks (T_api_Reply.Stats rv) == 0 && (ya.Asked (T_api_Reply.Stats rv) == 0 && (ya.Words (T_api_Reply.Stats rv) == 0 && (ya.Kept (T_api_Reply.Stats rv) == 0 && (ya.Open (T_api_Reply.Stats rv) == 0 && (ya.Mapped (T_api_Reply.Stats rv) == 0 && (ya.Used (T_api_Reply.Stats rv) == 0 && Bool.true)))))) && Bool.true)))))) [.rcells (yk m_lv ++ [.ptr 1 0, .row 2]), .cells U [.row 4], .row 0 (yg : List (Int)) Bool.false, .dead, .row 70 (Prod.snd y8 : List (List Int)) Bool.false]))) (K (vb (T_api_Reply.Err rv == 0 && (T_api_Reply.Addr rv == yc.Addr c && (T_api_Reply.Size rv == yi.words (Prod.fst y5) && (T_api_Reply.Value rv == 0 && (ya.Blocks (T_api_Reply.Stats rv) == 0 && (ya.Asked (T_api_Reply.Stats rv) == 0 && (ya.Words (T_api_Reply.Stats rv) == 0 && (ya.Kept (T_api_Reply.Stats rv) == 0 && (ya.Open (T_api_Reply.Stats rv) == 0 && (ya.Mapped (T_api_Reply.Stats rv) == 0 && (ya.Used (T_api_Reply.Stats rv) == 0 && Bool.true)))))) && Bool.true)))))) [.rcells (yk m_lv ++ [.ptr 1 0, .row 2]), .cells U [.row 4], .row 0 (yg : List (Int)) Bool.false, .dead, .row 70 (yf : List (List Int)) Bool.false])) (So (y01 c rv m_lv yg yf) (fun (y9 : Bool × List (List Int) × List Int) => (br (!Prod.fst y9) (K (vb (Bool.false)) [.rcells (yk m_lv ++ [.ptr 1 0, .row 2]), .cells U [.row 4], .row 0 (Prod.snd (Prod.snd y9) : List (Int)) Bool.false, .dead, .row 70 (Prod.fst (Prod.snd y9) : List (List Int)) Bool.false]) (br (T_api_Reply.Err rv != 0) (K (vb (Bool.true)) [.rcells (yk m_lv ++ [.ptr 1 0, .row 2]), .cells U [.row 4], .row 0 (Prod.snd (Prod.snd y9) : List (Int)) Bool.false, .dead, .row 70 (Prod.fst (Prod.snd y9) : List (List Int)) Bool.false]) (Loop (y28 y03 yx yw yy y01 ym yq y0z y0i y0c) (⟨93, 4⟩ : Cx) (at_ (bodyOf Try.f37) [1, 1, 1, 0, 1, 0, 0]) (mkEnv [(0, .ptr 0 0), (4, .ptr 4 0), (5, .ptr 5 0), (68, vi (if yc.Size c < yi.asked (Prod.fst y5) then yc.Size c else yi.asked (Prod.fst y5))), (69, vi (0))]) [.rcells (yk m_lv ++ [.ptr 1 0, .row 2]), .cells U [.row 6], .row 0 (Prod.snd (Prod.snd y9) : List (Int)) Bool.false, .dead, .cells 42 (y0p c), .cells 46 (y07 rv), .row 70 (Prod.fst (Prod.snd y9) : List (List Int)) Bool.false] (contK (y28 y03 yx yw yy y01 ym yq y0z y0i y0c) (⟨93, 4⟩ : Cx) (bodyOf Try.f37) [1, 1, 1, 0, 1, 0] (retW (y28 y03 yx yw yy y01 ym yq y0z y0i y0c) wk_model_Model_again Try.f37 4 K))))))))))))))) := by
  kernel_rfl
theorem yi1 (y03 : Int → (List (List Int)) → Option (yi × Bool)) (yx : Y14) (y0c : Int → (List (List Int)) → Option (Bool × (List (List Int)))) (c : yc) (rv : T_api_Reply) (m_lv : ye) (yg : List Int) (yf : List (List Int)) (U : TypeId) (K : V → Heap → Prop) : (exFW (ybc y03 yx y0c) [] wk_model_Model_free Try.f38 [.ptr 0 0, .agg (y0p c), .agg (y07 rv)] [.rcells (yk m_lv ++ [.ptr 1 0, .row 2]), .cells U [.row 3], .row 0 yg true, .row 70 yf false] K) = (
    ((So (y03 (yc.Addr c) yf) (fun (y0 : yi × Bool) => (br (!Prod.snd y0) (br (yc.Addr c != 0) (So (yx rv) (fun (y1 : Bool) => (K (vb (y1)) [.rcells (yk m_lv ++ [.ptr 1 0, .row 2]), .cells U [.row 4], .row 0 (yg : List (Int)) Bool.true, .dead, .row 70 (yf : List (List Int)) Bool.false]))) (br (!(T_api_Reply.Err rv == 0 && (T_api_Reply.Addr rv == 0 && (T_api_Reply.Size rv == 0 && (T_api_Reply.Value rv == 0 && (ya.Blocks (T_api_Reply.Stats rv) == 0 && (ya.Asked (T_api_Reply.Stats rv) == 0 && (ya.Words (T_api_Reply.Stats rv) == 0 && (ya.Kept (T_api_Reply.Stats rv) == 0 && (ya.Open (T_api_Reply.Stats rv) == 0 && (ya.Mapped (T_api_Reply.Stats rv) == 0 && (ya.Used (T_api_Reply.Stats rv) == 0 && Bool.true)))))) && Bool.true)))))) (K (vb (Bool.false)) [.rcells (yk m_lv ++ [.ptr 1 0, .row 2]), .cells U [.row 4], .row 0 (yg : List (Int)) Bool.true, .dead, .row 70 (yf : List (List Int)) Bool.false]) (So (y0c (yc.Addr c) yf) (fun (y2 : Bool × List (List Int)) => (K (vb (Bool.true)) [.rcells (yk m_lv ++ [.ptr 1 0, .row 2]), .cells U [.row 4], .row 0 (yg : List (Int)) Bool.true, .dead, .row 70 (Prod.snd y2 : List (List Int)) Bool.false]))))) (br (!(T_api_Reply.Err rv == 0 && (T_api_Reply.Addr rv == 0 && (T_api_Reply.Size rv == 0 && (T_api_Reply.Value rv == 0 && (ya.Blocks (T_api_Reply.Stats rv) == 0 && (ya.Asked (T_api_Reply.Stats rv) == 0 && (ya.Words (T_api_Reply.Stats rv) == 0 && (ya.Kept (T_api_Reply.Stats rv) == 0 && (ya.Open (T_api_Reply.Stats rv) == 0 && (ya.Mapped (T_api_Reply.Stats rv) == 0 && (ya.Used (T_api_Reply.Stats rv) == 0 && Bool.true)))))) && Bool.true)))))) (K (vb (Bool.false)) [.rcells (yk m_lv ++ [.ptr 1 0, .row 2]), .cells U [.row 4], .row 0 (yg : List (Int)) Bool.true, .dead, .row 70 (yf : List (List Int)) Bool.false]) (So (y0c (yc.Addr c) yf) (fun (y3 : Bool × List (List Int)) => (K (vb (Bool.true)) [.rcells (yk m_lv ++ [.ptr 1 0, .row 2]), .cells U [.row 4], .row 0 (yg : List (Int)) Bool.true, .dead, .row 70 (Prod.snd y3 : List (List Int)) Bool.false]))))))) ∧ (So (y03 (yc.Addr c) yf) (fun (y4 : yi × Bool) => (br (!Prod.snd y4) (br (yc.Addr c != 0) (So (yx rv) (fun (y5 : Bool) => (K (vb (y5)) [.rcells (yk m_lv ++ [.ptr 1 0, .row 2]), .cells U [.row 4], .row 0 (yg : List (Int)) Bool.true, .dead, .row 70 (yf : List (List Int)) Bool.false]))) (br (!(T_api_Reply.Err rv == 0 && (T_api_Reply.Addr rv == 0 && (T_api_Reply.Size rv == 0 && (T_api_Reply.Value rv == 0 && (ya.Blocks (T_api_Reply.Stats rv) == 0 && (ya.Asked (T_api_Reply.Stats rv) == 0 && (ya.Words (T_api_Reply.Stats rv) == 0 && (ya.Kept (T_api_Reply.Stats rv) == 0 && (ya.Open (T_api_Reply.Stats rv) == 0 && (ya.Mapped (T_api_Reply.Stats rv) == 0 && (ya.Used (T_api_Reply.Stats rv) == 0 && Bool.true)))))) && Bool.true)))))) (K (vb (Bool.false)) [.rcells (yk m_lv ++ [.ptr 1 0, .row 2]), .cells U [.row 4], .row 0 (yg : List (Int)) Bool.true, .dead, .row 70 (yf : List (List Int)) Bool.false]) (So (y0c (yc.Addr c) yf) (fun (y6 : Bool × List (List Int)) => (K (vb (Bool.true)) [.rcells (yk m_lv ++ [.ptr 1 0, .row 2]), .cells U [.row 4], .row 0 (yg : List (Int)) Bool.true, .dead, .row 70 (Prod.snd y6 : List (List Int)) Bool.false]))))) (br (!(T_api_Reply.Err rv == 0 && (T_api_Reply.Addr rv == 0 && (T_api_Reply.Size rv == 0 && (T_api_Reply.Value rv == 0 && (ya.Blocks (T_api_Reply.Stats rv) == 0 && (ya.Asked (T_api_Reply.Stats rv) == 0 && (ya.Words (T_api_Reply.Stats rv) == 0 && (ya.Kept (T_api_Reply.Stats rv) == 0 && (ya.Open (T_api_Reply.Stats rv) == 0 && (ya.Mapped (T_api_Reply.Stats rv) == 0 && (ya.Used (T_api_Reply.Stats rv) == 0 && Bool.true)))))) && Bool.true)))))) (K (vb (Bool.false)) [.rcells (yk m_lv ++ [.ptr 1 0, .row 2]), .cells U [.row 4], .row 0 (yg : List (Int)) Bool.true, .dead, .row 70 (yf : List (List Int)) Bool.false]) (So (y0c (yc.Addr c) yf) (fun (y7 : Bool × List (List Int)) => (K (vb (Bool.true)) [.rcells (yk m_lv ++ [.ptr 1 0, .row 2]), .cells U [.row 4], .row 0 (yg : List (Int)) Bool.true, .dead, .row 70 (Prod.snd y7 : List (List Int)) Bool.false]))))))))) := by
  kernel_rfl
theorem yg0 (y03 : Int → (List (List Int)) → Option (yi × Bool)) (yx : Y14) (c : yc) (rv : T_api_Reply) (m_lv : ye) (yg : List Int) (yf : List (List Int)) (K : V → Heap → Prop) : (exF (ydc y03 yx) Try.f39 [.ptr 0 0, .agg (y0p c), .agg (y07 rv)] [.rcells (yk m_lv ++ [.ptr 1 0, .row 2]), .rcells [.row 3], .row 0 yg true, .row 70 yf true] K) = (
    ((So (y03 (yc.Addr c) yf) (fun (y0 : yi × Bool) => (br (!Prod.snd y0) (So (yx rv) (fun (y1 : Bool) => (K (vb (y1)) [.rcells (yk m_lv ++ [.ptr 1 0, .row 2]), .rcells [.row 3], .row 0 (yg : List (Int)) Bool.true, .row 70 (yf : List (List Int)) Bool.true]))) (K (vb (T_api_Reply.Err rv == 0 && (T_api_Reply.Addr rv == 0 && (T_api_Reply.Size rv == yi.words (Prod.fst y0) && (T_api_Reply.Value rv == 0 && (ya.Blocks (T_api_Reply.Stats rv) == 0 && (ya.Asked (T_api_Reply.Stats rv) == 0 && (ya.Words (T_api_Reply.Stats rv) == 0 && (ya.Kept (T_api_Reply.Stats rv) == 0 && (ya.Open (T_api_Reply.Stats rv) == 0 && (ya.Mapped (T_api_Reply.Stats rv) == 0 && (ya.Used (T_api_Reply.Stats rv) == 0 && Bool.true)))))) && Bool.true)))))) [.rcells (yk m_lv ++ [.ptr 1 0, .row 2]), .rcells [.row 3], .row 0 (yg : List (Int)) Bool.true, .row 70 (yf : List (List Int)) Bool.true])))) ∧ (So (y03 (yc.Addr c) yf) (fun (y2 : yi × Bool) => (br (!Prod.snd y2) (So (yx rv) (fun (y3 : Bool) => (K (vb (y3)) [.rcells (yk m_lv ++ [.ptr 1 0, .row 2]), .rcells [.row 3], .row 0 (yg : List (Int)) Bool.true, .row 70 (yf : List (List Int)) Bool.true]))) (K (vb (T_api_Reply.Err rv == 0 && (T_api_Reply.Addr rv == 0 && (T_api_Reply.Size rv == yi.words (Prod.fst y2) && (T_api_Reply.Value rv == 0 && (ya.Blocks (T_api_Reply.Stats rv) == 0 && (ya.Asked (T_api_Reply.Stats rv) == 0 && (ya.Words (T_api_Reply.Stats rv) == 0 && (ya.Kept (T_api_Reply.Stats rv) == 0 && (ya.Open (T_api_Reply.Stats rv) == 0 && (ya.Mapped (T_api_Reply.Stats rv) == 0 && (ya.Used (T_api_Reply.Stats rv) == 0 && Bool.true)))))) && Bool.true)))))) [.rcells (yk m_lv ++ [.ptr 1 0, .row 2]), .rcells [.row 3], .row 0 (yg : List (Int)) Bool.true, .row 70 (yf : List (List Int)) Bool.true])))))) := by
  kernel_rfl
theorem yfw (y1a : Y20) (y3s : (List (List Int)) → (List Pr) → Option ((List Pr))) (y2s : yi → (List (List Int)) → Option (yi)) (y27 : Y25) (y1i : Y29) (yu : (List (List Int)) → Option (Int)) (rv : T_api_Reply) (m_lv : ye) (yg : List Int) (yf : List (List Int)) (K : V → Heap → Prop) : (exF (yak y1a y3s y2s y27 y1i yu) Try.f41 [.ptr 0 0, .agg (y07 rv)] [.rcells (yk m_lv ++ [.ptr 1 0, .row 2]), .rcells [.row 3], .row 0 yg true, .row 70 yf true] K) = (
    So (y2s (yi.mk 0 0) yf) (fun (y0 : yi) => (br (!(T_api_Reply.Err rv == 0 && (T_api_Reply.Addr rv == 0 && (T_api_Reply.Size rv == 0 && (T_api_Reply.Value rv == 0 && (ya.Blocks (T_api_Reply.Stats rv) == ya.Blocks (T_api_Reply.Stats rv) && (ya.Asked (T_api_Reply.Stats rv) == ya.Asked (T_api_Reply.Stats rv) && (ya.Words (T_api_Reply.Stats rv) == ya.Words (T_api_Reply.Stats rv) && (ya.Kept (T_api_Reply.Stats rv) == ya.Kept (T_api_Reply.Stats rv) && (ya.Open (T_api_Reply.Stats rv) == ya.Open (T_api_Reply.Stats rv) && (ya.Mapped (T_api_Reply.Stats rv) == ya.Mapped (T_api_Reply.Stats rv) && (ya.Used (T_api_Reply.Stats rv) == ya.Used (T_api_Reply.Stats rv) && Bool.true)))))) && Bool.true)))))) (K (vb (Bool.false)) [.rcells (yk m_lv ++ [.ptr 1 0, .row 2]), .rcells [.row 3], .row 0 (yg : List (Int)) Bool.true, .row 70 (yf : List (List Int)) Bool.true]) (So (y27 (T_api_Reply.Stats rv)) (fun (y1 : Bool) => (br (!y1) (K (vb (Bool.false)) [.rcells (yk m_lv ++ [.ptr 1 0, .row 2]), .rcells [.row 3], .row 0 (yg : List (Int)) Bool.true, .row 70 (yf : List (List Int)) Bool.true]) (So (y1i m_lv) (fun (y2 : yb) => (br (Decidable.decide (ya.Mapped (T_api_Reply.Stats rv) > yb.Pages y2)) (K (vb (Bool.false)) [.rcells (yk m_lv ++ [.ptr 1 0, .row 2]), .rcells [.row 3], .row 0 (yg : List (Int)) Bool.true, .row 70 (yf : List (List Int)) Bool.true]) (So (yu yf) (fun (y3 : Int) => (br (ya.Blocks (T_api_Reply.Stats rv) == y3) (br (ya.Asked (T_api_Reply.Stats rv) == yi.asked y0) (K (vb (ya.Words (T_api_Reply.Stats rv) == yi.words y0)) [.rcells (yk m_lv ++ [.ptr 1 0, .row 2]), .rcells [.row 3], .row 0 (yg : List (Int)) Bool.true, .row 70 (yf : List (List Int)) Bool.true]) (K (vb (Bool.false)) [.rcells (yk m_lv ++ [.ptr 1 0, .row 2]), .rcells [.row 3], .row 0 (yg : List (Int)) Bool.true, .row 70 (yf : List (List Int)) Bool.true])) (K (vb (Bool.false)) [.rcells (yk m_lv ++ [.ptr 1 0, .row 2]), .rcells [.row 3], .row 0 (yg : List (Int)) Bool.true, .row 70 (yf : List (List Int)) Bool.true]))))))))))))) := by
  kernel_rfl
theorem yfk (y0y : Y22) (y0k : Int → ye → (List Int) → (List (List Int)) → Option (Int × Int × Bool)) (yx : Y14) (y0z : Y2) (y0i : Int → ye → (List Int) → (List (List Int)) → Option (Int)) (ym : Y6) (yq : Y4) (c : yc) (rv : T_api_Reply) (m_lv : ye) (yg : List Int) (yf : List (List Int)) (K : V → Heap → Prop) : (exF (ycr y0y y0k yx y0z y0i ym yq) Try.f42 [.ptr 0 0, .agg (y0p c), .agg (y07 rv)] [.rcells (yk m_lv ++ [.ptr 1 0, .row 2]), .rcells [.row 3], .row 0 yg false, .row 70 yf true] K) = (
    So (y0k (yc.Addr c) m_lv yg yf) (fun (y0 : Int × Int × Bool) => (br (!Prod.snd (Prod.snd y0)) (So (yx rv) (fun (y1 : Bool) => (K (vb (y1)) [.rcells (yk m_lv ++ [.ptr 1 0, .row 2]), .rcells [.row 3], .row 0 (yg : List (Int)) Bool.false, .row 70 (yf : List (List Int)) Bool.true]))) (br (yc.Kind c == 11) (So (y0i (yc.Addr c) m_lv yg yf) (fun (y2 : Int) => (K (vb (T_api_Reply.Err rv == 0 && (T_api_Reply.Addr rv == 0 && (T_api_Reply.Size rv == 0 && (T_api_Reply.Value rv == y2 && (ya.Blocks (T_api_Reply.Stats rv) == 0 && (ya.Asked (T_api_Reply.Stats rv) == 0 && (ya.Words (T_api_Reply.Stats rv) == 0 && (ya.Kept (T_api_Reply.Stats rv) == 0 && (ya.Open (T_api_Reply.Stats rv) == 0 && (ya.Mapped (T_api_Reply.Stats rv) == 0 && (ya.Used (T_api_Reply.Stats rv) == 0 && Bool.true)))))) && Bool.true)))))) [.rcells (yk m_lv ++ [.ptr 1 0, .row 2]), .rcells [.row 3], .row 0 (yg : List (Int)) Bool.false, .row 70 (yf : List (List Int)) Bool.true]))) (br (!(T_api_Reply.Err rv == 0 && (T_api_Reply.Addr rv == 0 && (T_api_Reply.Size rv == 0 && (T_api_Reply.Value rv == 0 && (ya.Blocks (T_api_Reply.Stats rv) == 0 && (ya.Asked (T_api_Reply.Stats rv) == 0 && (ya.Words (T_api_Reply.Stats rv) == 0 && (ya.Kept (T_api_Reply.Stats rv) == 0 && (ya.Open (T_api_Reply.Stats rv) == 0 && (ya.Mapped (T_api_Reply.Stats rv) == 0 && (ya.Used (T_api_Reply.Stats rv) == 0 && Bool.true)))))) && Bool.true)))))) (K (vb (Bool.false)) [.rcells (yk m_lv ++ [.ptr 1 0, .row 2]), .rcells [.row 3], .row 0 (yg : List (Int)) Bool.false, .row 70 (yf : List (List Int)) Bool.true]) (So (yq m_lv (yc.Addr c)) (fun (y3 : Int × Int × Bool) => (br (!Prod.snd (Prod.snd y3)) (False) (So (ym m_lv) (fun (y4 : Int) => (Req (inR (IntKind.wrap IntKind.i64 (yc.Addr c - y4)) (List.length yg)) (Req (inR (offs (IntKind.wrap IntKind.i64 (yc.Addr c - y4)) 0) (List.length yg)) (K (vb (Bool.true)) [.rcells (yk m_lv ++ [.ptr 1 0, .row 2]), .rcells [.row 3], .row 0 (List.set yg (Int.toNat (offs (IntKind.wrap IntKind.i64 (yc.Addr c - y4)) 0)) (yc.Value c) : List (Int)) Bool.false, .row 70 (yf : List (List Int)) Bool.true]))))))))))))) := by
  kernel_rfl
theorem yja (y22 : Y12) (y01 : yc → T_api_Reply → ye → (List Int) → (List (List Int)) → Option (Bool × (List (List Int)) × (List Int))) (y1x : yc → T_api_Reply → ye → (List Int) → (List (List Int)) → Option (Bool × (List (List Int)) × (List Int))) (y1y : yc → T_api_Reply → ye → (List Int) → (List (List Int)) → Option (Bool × (List (List Int)))) (y1w : yc → T_api_Reply → ye → (List Int) → (List (List Int)) → Option (Bool)) (y1i : Y29) (y20 : T_api_Reply → ye → (List Int) → (List (List Int)) → Option (Bool)) (y21 : yc → T_api_Reply → ye → (List Int) → (List (List Int)) → Option (Bool × (List Int))) (c : yc) (rv : T_api_Reply) (m_lv : ye) (yg : List Int) (yf : List (List Int)) (U : TypeId) (K : V → Heap → Prop) : (exFW (yac y22 y01 y1x y1y y1w y1i y20 y21) [] wk_model_Model_Step Try.f15 [.ptr 0 0, .agg (y0p c), .agg (y07 rv)] [.rcells (yk m_lv ++ [.ptr 1 0, .row 2]), .cells U [.row 3], .row 0 yg false, .row 70 yf false] K) = (
    br (T_api_Reply.Err rv == 8 && (T_api_Reply.Addr rv == 0 && (T_api_Reply.Size rv == 0 && (T_api_Reply.Value rv == 0 && (ya.Blocks (T_api_Reply.Stats rv) == 0 && (ya.Asked (T_api_Reply.Stats rv) == 0 && (ya.Words (T_api_Reply.Stats rv) == 0 && (ya.Kept (T_api_Reply.Stats rv) == 0 && (ya.Open (T_api_Reply.Stats rv) == 0 && (ya.Mapped (T_api_Reply.Stats rv) == 0 && (ya.Used (T_api_Reply.Stats rv) == 0 && Bool.true)))))) && Bool.true))))) (K (vb (Bool.true)) [.rcells (yk m_lv ++ [.ptr 1 0, .row 2]), .cells U [.row 4], .row 0 (yg : List (Int)) Bool.false, .dead, .row 70 (yf : List (List Int)) Bool.false]) (So (y22 c) (fun (y0 : Int) => (br (y0 != 0) (K (vb (T_api_Reply.Err rv == y0 && (T_api_Reply.Addr rv == 0 && (T_api_Reply.Size rv == 0 && (T_api_Reply.Value rv == 0 && (ya.Blocks (T_api_Reply.Stats rv) == 0 && (ya.Asked (T_api_Reply.Stats rv) == 0 && (ya.Words (T_api_Reply.Stats rv) == 0 && (ya.Kept (T_api_Reply.Stats rv) == 0 && (ya.Open (T_api_Reply.Stats rv) == 0 && (ya.Mapped (T_api_Reply.Stats rv) == 0 && (ya.Used (T_api_Reply.Stats rv) == 0 && Bool.true)))))) && Bool.true)))))) [.rcells (yk m_lv ++ [.ptr 1 0, .row 2]), .cells U [.row 4], .row 0 (yg : List (Int)) Bool.false, .dead, .row 70 (yf : List (List Int)) Bool.false]) (br (yc.Kind c == 1) (So (y01 c rv m_lv yg yf) (fun (y1 : Bool × List (List Int) × List Int) => (K (vb (Prod.fst y1)) [.rcells (yk m_lv ++ [.ptr 1 0, .row 2]), .cells U [.row 4], .row 0 (Prod.snd (Prod.snd y1) : List (Int)) Bool.false, .dead, .row 70 (Prod.fst (Prod.snd y1) : List (List Int)) Bool.false]))) (br (yc.Kind c == 3) (So (y01 c rv m_lv yg yf) (fun (y2 : Bool × List (List Int) × List Int) => (K (vb (Prod.fst y2)) [.rcells (yk m_lv ++ [.ptr 1 0, .row 2]), .cells U [.row 4], .row 0 (Prod.snd (Prod.snd y2) : List (Int)) Bool.false, .dead, .row 70 (Prod.fst (Prod.snd y2) : List (List Int)) Bool.false]))) (br (yc.Kind c == 5) (So (y01 c rv m_lv yg yf) (fun (y3 : Bool × List (List Int) × List Int) => (K (vb (Prod.fst y3)) [.rcells (yk m_lv ++ [.ptr 1 0, .row 2]), .cells U [.row 4], .row 0 (Prod.snd (Prod.snd y3) : List (Int)) Bool.false, .dead, .row 70 (Prod.fst (Prod.snd y3) : List (List Int)) Bool.false]))) (br (yc.Kind c == 4) (br (yc.Addr c == 0) (So (y01 c rv m_lv yg yf) (fun (y4 : Bool × List (List Int) × List Int) => (K (vb (Prod.fst y4)) [.rcells (yk m_lv ++ [.ptr 1 0, .row 2]), .cells U [.row 4], .row 0 (Prod.snd (Prod.snd y4) : List (Int)) Bool.false, .dead, .row 70 (Prod.fst (Prod.snd y4) : List (List Int)) Bool.false]))) (So (y1x c rv m_lv yg yf) (fun (y5 : Bool × List (List Int) × List Int) => (K (vb (Prod.fst y5)) [.rcells (yk m_lv ++ [.ptr 1 0, .row 2]), .cells U [.row 4], .row 0 (Prod.snd (Prod.snd y5) : List (Int)) Bool.false, .dead, .row 70 (Prod.fst (Prod.snd y5) : List (List Int)) Bool.false])))) (br (yc.Kind c == 2) (So (y1y c rv m_lv yg yf) (fun (y6 : Bool × List (List Int)) => (K (vb (Prod.fst y6)) [.rcells (yk m_lv ++ [.ptr 1 0, .row 2]), .cells U [.row 4], .row 0 (yg : List (Int)) Bool.false, .dead, .row 70 (Prod.snd y6 : List (List Int)) Bool.false]))) (br (yc.Kind c == 6) (So (y1w c rv m_lv yg yf) (fun (y7 : Bool) => (K (vb (y7)) [.rcells (yk m_lv ++ [.ptr 1 0, .row 2]), .cells U [.row 4], .row 0 (yg : List (Int)) Bool.false, .dead, .row 70 (yf : List (List Int)) Bool.false]))) (br (yc.Kind c == 7) (K (vb (T_api_Reply.Err rv == 0 && (T_api_Reply.Addr rv == 0 && (T_api_Reply.Size rv == 0 && (T_api_Reply.Value rv == 0 && (ya.Blocks (T_api_Reply.Stats rv) == 0 && (ya.Asked (T_api_Reply.Stats rv) == 0 && (ya.Words (T_api_Reply.Stats rv) == 0 && (ya.Kept (T_api_Reply.Stats rv) == 0 && (ya.Open (T_api_Reply.Stats rv) == 0 && (ya.Mapped (T_api_Reply.Stats rv) == 0 && (ya.Used (T_api_Reply.Stats rv) == 0 && Bool.true)))))) && Bool.true)))))) [.rcells (yk m_lv ++ [.ptr 1 0, .row 2]), .cells U [.row 4], .row 0 (yg : List (Int)) Bool.false, .dead, .row 70 (yf : List (List Int)) Bool.false]) (br (yc.Kind c == 9) (K (vb (T_api_Reply.Err rv == 0 && (T_api_Reply.Addr rv == 0 && (T_api_Reply.Size rv == 0 && (T_api_Reply.Value rv == 0 && (ya.Blocks (T_api_Reply.Stats rv) == 0 && (ya.Asked (T_api_Reply.Stats rv) == 0 && (ya.Words (T_api_Reply.Stats rv) == 0 && (ya.Kept (T_api_Reply.Stats rv) == 0 && (ya.Open (T_api_Reply.Stats rv) == 0 && (ya.Mapped (T_api_Reply.Stats rv) == 0 && (ya.Used (T_api_Reply.Stats rv) == 0 && Bool.true)))))) && Bool.true)))))) [.rcells (yk m_lv ++ [.ptr 1 0, .row 2]), .cells U [.row 4], .row 0 (yg : List (Int)) Bool.false, .dead, .row 70 (yf : List (List Int)) Bool.false]) (br (yc.Kind c == 8) (br (T_api_Reply.Err rv == 0 && (T_api_Reply.Addr rv == 0 && (T_api_Reply.Size rv == T_api_Reply.Size rv && (T_api_Reply.Value rv == 0 && (ya.Blocks (T_api_Reply.Stats rv) == 0 && (ya.Asked (T_api_Reply.Stats rv) == 0 && (ya.Words (T_api_Reply.Stats rv) == 0 && (ya.Kept (T_api_Reply.Stats rv) == 0 && (ya.Open (T_api_Reply.Stats rv) == 0 && (ya.Mapped (T_api_Reply.Stats rv) == 0 && (ya.Used (T_api_Reply.Stats rv) == 0 && Bool.true)))))) && Bool.true))))) (br (Decidable.decide (T_api_Reply.Size rv ≥ 0)) (So (y1i m_lv) (fun (y8 : yb) => (K (vb (Decidable.decide (T_api_Reply.Size rv ≤ yb.Pages y8))) [.rcells (yk m_lv ++ [.ptr 1 0, .row 2]), .cells U [.row 4], .row 0 (yg : List (Int)) Bool.false, .dead, .row 70 (yf : List (List Int)) Bool.false]))) (K (vb (Bool.false)) [.rcells (yk m_lv ++ [.ptr 1 0, .row 2]), .cells U [.row 4], .row 0 (yg : List (Int)) Bool.false, .dead, .row 70 (yf : List (List Int)) Bool.false])) (K (vb (Bool.false)) [.rcells (yk m_lv ++ [.ptr 1 0, .row 2]), .cells U [.row 4], .row 0 (yg : List (Int)) Bool.false, .dead, .row 70 (yf : List (List Int)) Bool.false])) (br (yc.Kind c == 10) (So (y20 rv m_lv yg yf) (fun (y9 : Bool) => (K (vb (y9)) [.rcells (yk m_lv ++ [.ptr 1 0, .row 2]), .cells U [.row 4], .row 0 (yg : List (Int)) Bool.false, .dead, .row 70 (yf : List (List Int)) Bool.false]))) (So (y21 c rv m_lv yg yf) (fun (y10 : Bool × List Int) => (K (vb (Prod.fst y10)) [.rcells (yk m_lv ++ [.ptr 1 0, .row 2]), .cells U [.row 4], .row 0 (Prod.snd y10 : List (Int)) Bool.false, .dead, .row 70 (yf : List (List Int)) Bool.false]))))))))))))))))) := by
  kernel_rfl
theorem yfg (y22 : Y12) (y01 : yc → T_api_Reply → ye → (List Int) → (List (List Int)) → Option (Bool × (List (List Int)) × (List Int))) (y1x : yc → T_api_Reply → ye → (List Int) → (List (List Int)) → Option (Bool × (List (List Int)) × (List Int))) (y1y : yc → T_api_Reply → ye → (List Int) → (List (List Int)) → Option (Bool × (List (List Int)))) (y1w : yc → T_api_Reply → ye → (List Int) → (List (List Int)) → Option (Bool)) (y1i : Y29) (y20 : T_api_Reply → ye → (List Int) → (List (List Int)) → Option (Bool)) (y21 : yc → T_api_Reply → ye → (List Int) → (List (List Int)) → Option (Bool × (List Int))) (c : yc) (rv : T_api_Reply) (K : V → Heap → Prop) : (exF (ye2 y22 y01 y1x y1y y1w y1i y20 y21) Try.f15 [.ext (.pointer none), .agg (y0p c), .agg (y07 rv)] [] K) = (
    K (vb (Bool.false)) []) := by
  kernel_rfl
noncomputable def y3y (c : yb) : Option (Bool × Int × ye × (List Int) × (List (List Int))) :=
  ((y1q c).bind fun y0 => (bif (Prod.snd y0 != 0) then some (((Bool.false), (Prod.snd y0), ((ye.mk (yb.mk (0) (0) (0) (0) (0) (0) (0) (0) (0) (0) (0)) (0) (0) (0) (0) (0) (0) (0) (0) (0) (0) (0) (0))), ([]), ([]))) else ((y0j (Prod.fst y0)).bind fun y1 => ((ym (Prod.fst y0)).bind fun y2 => (bif (Decidable.decide (0 ≤ IntKind.wrap IntKind.i64 (y1 - y2) ∧ IntKind.wrap IntKind.i64 (y1 - y2) ≤ IntKind.wrap IntKind.i64 (y1 - y2) ∧ IntKind.wrap IntKind.i64 (y1 - y2) ≤ 1048576)) then some (((Bool.true), (0), ((Prod.fst y0)), (List.replicate (Int.toNat (IntKind.wrap IntKind.i64 (y1 - y2))) (0 : Int)), ([]))) else none)))))
noncomputable def yw (size : Int) (align : Int) : Option (Int) :=
  (bif (Decidable.decide (size > 1048576)) then some ((0)) else ((y2r size align).bind fun y0 => some ((Prod.fst y0))))
noncomputable def yx (rv : T_api_Reply) : Option (Bool) :=
  some ((T_api_Reply.Err rv == 7 && (T_api_Reply.Addr rv == 0 && (T_api_Reply.Size rv == 0 && (T_api_Reply.Value rv == 0 && (ya.Blocks (T_api_Reply.Stats rv) == 0 && (ya.Asked (T_api_Reply.Stats rv) == 0 && (ya.Words (T_api_Reply.Stats rv) == 0 && (ya.Kept (T_api_Reply.Stats rv) == 0 && (ya.Open (T_api_Reply.Stats rv) == 0 && (ya.Mapped (T_api_Reply.Stats rv) == 0 && (ya.Used (T_api_Reply.Stats rv) == 0 && Bool.true)))))) && Bool.true))))))
noncomputable def y0i (a : Int) (m_lv : ye) (yg : List Int) (yf : List (List Int)) : Option (Int) :=
  ((yq m_lv a).bind fun y0 => (bif (!Prod.snd (Prod.snd y0)) then some ((0)) else ((ym m_lv).bind fun y1 => (bif (inR (IntKind.wrap IntKind.i64 (a - y1)) (List.length yg)) then (bif (inR (offs (IntKind.wrap IntKind.i64 (a - y1)) 0) (List.length yg)) then some ((List.getD yg (Int.toNat (offs (IntKind.wrap IntKind.i64 (a - y1)) 0)) 0)) else none) else none))))
noncomputable def y0z (a : Int) : Option (Int) :=
  some ((0))
noncomputable def y3t (a : Int) (yf : List (List Int)) (iv : Int) : Option ((Int) ⊕ (Int × Int × Bool)) :=
  ((yu yf).bind fun y0 => (bif (Decidable.decide (iv < y0)) then ((y0x iv yf).bind fun y1 => (bif (Decidable.decide (Prod.fst y1 > a)) then some (.inr (((0), (0), (Bool.false)))) else (bif (Decidable.decide (IntKind.wrap IntKind.i64 (a - Prod.fst y1) < yi.words (Prod.fst (Prod.snd y1)))) then some (.inr (((Prod.fst y1), (yi.words (Prod.fst (Prod.snd y1))), (Bool.true)))) else some (.inl (IntKind.wrap IntKind.i64 (iv + 1)))))) else some (.inr (((0), (0), (Bool.false))))))
noncomputable def y83 (a : Int) (yf : List (List Int)) (s : Int) : Option (Int × Int × Bool) :=
  loopO (fun s => y3t a yf s) s
noncomputable def y0k (a : Int) (m_lv : ye) (yg : List Int) (yf : List (List Int)) : Option (Int × Int × Bool) :=
  (y83 a yf (0))
noncomputable def y0y (a : Int) : Option (Int × Int × Bool) :=
  some (((0), (0), (Bool.false)))
noncomputable def y4k (rv : T_api_Reply) (m_lv : ye) (yg : List Int) (yf : List (List Int)) (t58 : Int) (t59 : Int) : Option ((Int) ⊕ (Bool)) :=
  (bif (Decidable.decide (t59 < t58)) then ((y0k (IntKind.wrap IntKind.i64 (T_api_Reply.Addr rv + t59)) m_lv yg yf).bind fun y0 => (bif (Prod.snd (Prod.snd y0)) then some (.inr ((Bool.false))) else some (.inl (IntKind.wrap IntKind.i64 (t59 + 1))))) else some (.inr ((Bool.true))))
noncomputable def y4z (rv : T_api_Reply) (m_lv : ye) (yg : List Int) (yf : List (List Int)) (t58 : Int) (s : Int) : Option (Bool) :=
  loopO (fun s => y4k rv m_lv yg yf t58 s) s
noncomputable def y1j (c : yc) (rv : T_api_Reply) (m_lv : ye) (yg : List Int) (yf : List (List Int)) : Option (Bool) :=
  (bif (yc.Kind c == 5) then ((yw (yc.Size c) (yc.Align c)).bind fun y0 => (bif (!(T_api_Reply.Err rv == 0 && (T_api_Reply.Addr rv == T_api_Reply.Addr rv && (T_api_Reply.Size rv == y0 && (T_api_Reply.Value rv == 0 && (ya.Blocks (T_api_Reply.Stats rv) == 0 && (ya.Asked (T_api_Reply.Stats rv) == 0 && (ya.Words (T_api_Reply.Stats rv) == 0 && (ya.Kept (T_api_Reply.Stats rv) == 0 && (ya.Open (T_api_Reply.Stats rv) == 0 && (ya.Mapped (T_api_Reply.Stats rv) == 0 && (ya.Used (T_api_Reply.Stats rv) == 0 && Bool.true)))))) && Bool.true)))))) then some ((Bool.false)) else (bif (y0 == 0) then some ((Bool.false)) else (bif (!yc.Align c == 0) then (bif (Int.tmod (T_api_Reply.Addr rv) (yc.Align c) != 0) then some ((Bool.false)) else ((yq m_lv (T_api_Reply.Addr rv)).bind fun y1 => (bif (!Prod.snd (Prod.snd y1)) then some ((Bool.false)) else ((ym m_lv).bind fun y2 => (bif (inR (IntKind.wrap IntKind.i64 (T_api_Reply.Addr rv - y2)) (List.length yg)) then ((y0j m_lv).bind fun y3 => (bif (Decidable.decide (y0 > IntKind.wrap IntKind.i64 (y3 - T_api_Reply.Addr rv))) then some ((Bool.false)) else (y4z rv m_lv yg yf (y0) (0)))) else none))))) else none)))) else ((yw (yc.Size c) 1).bind fun y4 => (bif (!(T_api_Reply.Err rv == 0 && (T_api_Reply.Addr rv == T_api_Reply.Addr rv && (T_api_Reply.Size rv == y4 && (T_api_Reply.Value rv == 0 && (ya.Blocks (T_api_Reply.Stats rv) == 0 && (ya.Asked (T_api_Reply.Stats rv) == 0 && (ya.Words (T_api_Reply.Stats rv) == 0 && (ya.Kept (T_api_Reply.Stats rv) == 0 && (ya.Open (T_api_Reply.Stats rv) == 0 && (ya.Mapped (T_api_Reply.Stats rv) == 0 && (ya.Used (T_api_Reply.Stats rv) == 0 && Bool.true)))))) && Bool.true)))))) then some ((Bool.false)) else (bif (y4 == 0) then some ((Bool.false)) else (bif (Int.tmod (T_api_Reply.Addr rv) 1 != 0) then some ((Bool.false)) else ((yq m_lv (T_api_Reply.Addr rv)).bind fun y5 => (bif (!Prod.snd (Prod.snd y5)) then some ((Bool.false)) else ((ym m_lv).bind fun y6 => (bif (inR (IntKind.wrap IntKind.i64 (T_api_Reply.Addr rv - y6)) (List.length yg)) then ((y0j m_lv).bind fun y7 => (bif (Decidable.decide (y4 > IntKind.wrap IntKind.i64 (y7 - T_api_Reply.Addr rv))) then some ((Bool.false)) else (y4z rv m_lv yg yf (y4) (0)))) else none)))))))))
noncomputable def y3z (rv : T_api_Reply) (m_lv : ye) (w : List (List Int)) (t35 : Int) (y0d : List Int) : Option ((Int × (List Int)) ⊕ (Bool × (List (List Int)) × (List Int))) :=
  (bif (Decidable.decide (t35 < T_api_Reply.Size rv)) then ((yq m_lv (IntKind.wrap IntKind.i64 (T_api_Reply.Addr rv + t35))).bind fun y0 => (bif (!Prod.snd (Prod.snd y0)) then none else ((ym m_lv).bind fun y1 => (bif (inR (IntKind.wrap IntKind.i64 (IntKind.wrap IntKind.i64 (T_api_Reply.Addr rv + t35) - y1)) (List.length y0d)) then (bif (inR (offs (IntKind.wrap IntKind.i64 (IntKind.wrap IntKind.i64 (T_api_Reply.Addr rv + t35) - y1)) 0) (List.length y0d)) then some (.inl ((IntKind.wrap IntKind.i64 (t35 + 1)), (List.set y0d (Int.toNat (offs (IntKind.wrap IntKind.i64 (IntKind.wrap IntKind.i64 (T_api_Reply.Addr rv + t35) - y1)) 0)) 0))) else none) else none)))) else some (.inr (((Bool.true), (w), (y0d)))))
noncomputable def y5f (rv : T_api_Reply) (m_lv : ye) (w : List (List Int)) (s : Int × (List Int)) : Option (Bool × (List (List Int)) × (List Int)) :=
  loopO (fun s => y3z rv m_lv w s.1 s.2) s
noncomputable def y01 (c : yc) (rv : T_api_Reply) (m_lv : ye) (yg : List Int) (yf : List (List Int)) : Option (Bool × (List (List Int)) × (List Int)) :=
  (bif (T_api_Reply.Err rv == 6 && (T_api_Reply.Addr rv == 0 && (T_api_Reply.Size rv == 0 && (T_api_Reply.Value rv == 0 && (ya.Blocks (T_api_Reply.Stats rv) == 0 && (ya.Asked (T_api_Reply.Stats rv) == 0 && (ya.Words (T_api_Reply.Stats rv) == 0 && (ya.Kept (T_api_Reply.Stats rv) == 0 && (ya.Open (T_api_Reply.Stats rv) == 0 && (ya.Mapped (T_api_Reply.Stats rv) == 0 && (ya.Used (T_api_Reply.Stats rv) == 0 && Bool.true)))))) && Bool.true))))) then some (((Bool.true), (yf), (yg))) else ((y1j c rv m_lv yg yf).bind fun y0 => (bif (!y0) then some (((Bool.false), (yf), (yg))) else ((yy (T_api_Reply.Addr rv) (yi.mk (yc.Size c) (T_api_Reply.Size rv)) yf).bind fun y1 => (bif (yc.Kind c == 3) then (y5f rv m_lv (Prod.snd y1) ((0), (yg))) else some (((Bool.true), (Prod.snd y1), (yg))))))))
noncomputable def y4p (c : yc) (rv : T_api_Reply) (m_lv : ye) (t68 : Int) (w : List (List Int)) (t69 : Int) (y0d : List Int) : Option ((Int × (List Int)) ⊕ (Bool × (List (List Int)) × (List Int))) :=
  (bif (Decidable.decide (t69 < t68)) then ((yq m_lv (IntKind.wrap IntKind.i64 (T_api_Reply.Addr rv + t69))).bind fun y0 => (bif (!Prod.snd (Prod.snd y0)) then ((y0i (IntKind.wrap IntKind.i64 (yc.Addr c + t69)) m_lv y0d w).bind fun y1 => none) else ((ym m_lv).bind fun y2 => (bif (inR (IntKind.wrap IntKind.i64 (IntKind.wrap IntKind.i64 (T_api_Reply.Addr rv + t69) - y2)) (List.length y0d)) then ((y0i (IntKind.wrap IntKind.i64 (yc.Addr c + t69)) m_lv y0d w).bind fun y3 => (bif (inR (offs (IntKind.wrap IntKind.i64 (IntKind.wrap IntKind.i64 (T_api_Reply.Addr rv + t69) - y2)) 0) (List.length y0d)) then some (.inl ((IntKind.wrap IntKind.i64 (t69 + 1)), (List.set y0d (Int.toNat (offs (IntKind.wrap IntKind.i64 (IntKind.wrap IntKind.i64 (T_api_Reply.Addr rv + t69) - y2)) 0)) y3))) else none)) else none)))) else ((y0c (yc.Addr c) w).bind fun y4 => some (.inr (((Bool.true), (Prod.snd y4), (y0d))))))
noncomputable def y5h (c : yc) (rv : T_api_Reply) (m_lv : ye) (t68 : Int) (w : List (List Int)) (s : Int × (List Int)) : Option (Bool × (List (List Int)) × (List Int)) :=
  loopO (fun s => y4p c rv m_lv t68 w s.1 s.2) s
noncomputable def y1x (c : yc) (rv : T_api_Reply) (m_lv : ye) (yg : List Int) (yf : List (List Int)) : Option (Bool × (List (List Int)) × (List Int)) :=
  ((y03 (yc.Addr c) yf).bind fun y5 => (bif (!Prod.snd y5) then ((yx rv).bind fun y6 => some (((y6), (yf), (yg)))) else ((yw (yc.Size c) 1).bind fun y7 => (bif (y7 == yi.words (Prod.fst y5)) then (bif (T_api_Reply.Err rv == 0 && (T_api_Reply.Addr rv == yc.Addr c && (T_api_Reply.Size rv == yi.words (Prod.fst y5) && (T_api_Reply.Value rv == 0 && (ya.Blocks (T_api_Reply.Stats rv) == 0 && (ya.Asked (T_api_Reply.Stats rv) == 0 && (ya.Words (T_api_Reply.Stats rv) == 0 && (ya.Kept (T_api_Reply.Stats rv) == 0 && (ya.Open (T_api_Reply.Stats rv) == 0 && (ya.Mapped (T_api_Reply.Stats rv) == 0 && (ya.Used (T_api_Reply.Stats rv) == 0 && Bool.true)))))) && Bool.true))))) then ((yy (yc.Addr c) (yi.mk (yc.Size c) (yi.words (Prod.fst y5))) yf).bind fun y8 => some (((T_api_Reply.Err rv == 0 && (T_api_Reply.Addr rv == yc.Addr c && (T_api_Reply.Size rv == yi.words (Prod.fst y5) && (T_api_Reply.Value rv == 0 && (ya.Blocks (T_api_Reply.Stats rv) == 0 && (ya.Asked (T_api_Reply.Stats rv) == 0 && (ya.Words (T_api_Reply.Stats rv) == 0 && (ya.Kept (T_api_Reply.Stats rv) == 0 && (ya.Open (T_api_Reply.Stats rv) == 0 && (ya.Mapped (T_api_Reply.Stats rv) == 0 && (ya.Used (T_api_Reply.Stats rv) == 0 && Bool.true)))))) && Bool.true))))), (Prod.snd y8), (yg)))) else some (((T_api_Reply.Err rv == 0 && (T_api_Reply.Addr rv == yc.Addr c && (T_api_Reply.Size rv == yi.words (Prod.fst y5) && (T_api_Reply.Value rv == 0 && (ya.Blocks (T_api_Reply.Stats rv) == 0 && (ya.Asked (T_api_Reply.Stats rv) == 0 && (ya.Words (T_api_Reply.Stats rv) == 0 && (ya.Kept (T_api_Reply.Stats rv) == 0 && (ya.Open (T_api_Reply.Stats rv) == 0 && (ya.Mapped (T_api_Reply.Stats rv) == 0 && (ya.Used (T_api_Reply.Stats rv) == 0 && Bool.true)))))) && Bool.true))))), (yf), (yg)))) else ((y01 c rv m_lv yg yf).bind fun y9 => (bif (!Prod.fst y9) then some (((Bool.false), (Prod.fst (Prod.snd y9)), (Prod.snd (Prod.snd y9)))) else (bif (T_api_Reply.Err rv != 0) then some (((Bool.true), (Prod.fst (Prod.snd y9)), (Prod.snd (Prod.snd y9)))) else (y5h c rv m_lv (if yc.Size c < yi.asked (Prod.fst y5) then yc.Size c else yi.asked (Prod.fst y5)) (Prod.fst (Prod.snd y9)) ((0), (Prod.snd (Prod.snd y9)))))))))))
noncomputable def y1y (c : yc) (rv : T_api_Reply) (m_lv : ye) (yg : List Int) (yf : List (List Int)) : Option (Bool × (List (List Int))) :=
  ((y03 (yc.Addr c) yf).bind fun y4 => (bif (!Prod.snd y4) then (bif (yc.Addr c != 0) then ((yx rv).bind fun y5 => some (((y5), (yf)))) else (bif (!(T_api_Reply.Err rv == 0 && (T_api_Reply.Addr rv == 0 && (T_api_Reply.Size rv == 0 && (T_api_Reply.Value rv == 0 && (ya.Blocks (T_api_Reply.Stats rv) == 0 && (ya.Asked (T_api_Reply.Stats rv) == 0 && (ya.Words (T_api_Reply.Stats rv) == 0 && (ya.Kept (T_api_Reply.Stats rv) == 0 && (ya.Open (T_api_Reply.Stats rv) == 0 && (ya.Mapped (T_api_Reply.Stats rv) == 0 && (ya.Used (T_api_Reply.Stats rv) == 0 && Bool.true)))))) && Bool.true)))))) then some (((Bool.false), (yf))) else ((y0c (yc.Addr c) yf).bind fun y6 => some (((Bool.true), (Prod.snd y6)))))) else (bif (!(T_api_Reply.Err rv == 0 && (T_api_Reply.Addr rv == 0 && (T_api_Reply.Size rv == 0 && (T_api_Reply.Value rv == 0 && (ya.Blocks (T_api_Reply.Stats rv) == 0 && (ya.Asked (T_api_Reply.Stats rv) == 0 && (ya.Words (T_api_Reply.Stats rv) == 0 && (ya.Kept (T_api_Reply.Stats rv) == 0 && (ya.Open (T_api_Reply.Stats rv) == 0 && (ya.Mapped (T_api_Reply.Stats rv) == 0 && (ya.Used (T_api_Reply.Stats rv) == 0 && Bool.true)))))) && Bool.true)))))) then some (((Bool.false), (yf))) else ((y0c (yc.Addr c) yf).bind fun y7 => some (((Bool.true), (Prod.snd y7)))))))
noncomputable def y1w (c : yc) (rv : T_api_Reply) (m_lv : ye) (yg : List Int) (yf : List (List Int)) : Option (Bool) :=
  ((y03 (yc.Addr c) yf).bind fun y2 => (bif (!Prod.snd y2) then ((yx rv).bind fun y3 => some ((y3))) else some ((T_api_Reply.Err rv == 0 && (T_api_Reply.Addr rv == 0 && (T_api_Reply.Size rv == yi.words (Prod.fst y2) && (T_api_Reply.Value rv == 0 && (ya.Blocks (T_api_Reply.Stats rv) == 0 && (ya.Asked (T_api_Reply.Stats rv) == 0 && (ya.Words (T_api_Reply.Stats rv) == 0 && (ya.Kept (T_api_Reply.Stats rv) == 0 && (ya.Open (T_api_Reply.Stats rv) == 0 && (ya.Mapped (T_api_Reply.Stats rv) == 0 && (ya.Used (T_api_Reply.Stats rv) == 0 && Bool.true)))))) && Bool.true))))))))
noncomputable def y20 (rv : T_api_Reply) (m_lv : ye) (yg : List Int) (yf : List (List Int)) : Option (Bool) :=
  ((y2s (yi.mk 0 0) yf).bind fun y0 => (bif (!(T_api_Reply.Err rv == 0 && (T_api_Reply.Addr rv == 0 && (T_api_Reply.Size rv == 0 && (T_api_Reply.Value rv == 0 && (ya.Blocks (T_api_Reply.Stats rv) == ya.Blocks (T_api_Reply.Stats rv) && (ya.Asked (T_api_Reply.Stats rv) == ya.Asked (T_api_Reply.Stats rv) && (ya.Words (T_api_Reply.Stats rv) == ya.Words (T_api_Reply.Stats rv) && (ya.Kept (T_api_Reply.Stats rv) == ya.Kept (T_api_Reply.Stats rv) && (ya.Open (T_api_Reply.Stats rv) == ya.Open (T_api_Reply.Stats rv) && (ya.Mapped (T_api_Reply.Stats rv) == ya.Mapped (T_api_Reply.Stats rv) && (ya.Used (T_api_Reply.Stats rv) == ya.Used (T_api_Reply.Stats rv) && Bool.true)))))) && Bool.true)))))) then some ((Bool.false)) else ((y27 (T_api_Reply.Stats rv)).bind fun y1 => (bif (!y1) then some ((Bool.false)) else ((y1i m_lv).bind fun y2 => (bif (Decidable.decide (ya.Mapped (T_api_Reply.Stats rv) > yb.Pages y2)) then some ((Bool.false)) else ((yu yf).bind fun y3 => (bif (ya.Blocks (T_api_Reply.Stats rv) == y3) then (bif (ya.Asked (T_api_Reply.Stats rv) == yi.asked y0) then some ((ya.Words (T_api_Reply.Stats rv) == yi.words y0)) else some ((Bool.false))) else some ((Bool.false))))))))))
noncomputable def y21 (c : yc) (rv : T_api_Reply) (m_lv : ye) (yg : List Int) (yf : List (List Int)) : Option (Bool × (List Int)) :=
  ((y0k (yc.Addr c) m_lv yg yf).bind fun y0 => (bif (!Prod.snd (Prod.snd y0)) then ((yx rv).bind fun y1 => some (((y1), (yg)))) else (bif (yc.Kind c == 11) then ((y0i (yc.Addr c) m_lv yg yf).bind fun y2 => some (((T_api_Reply.Err rv == 0 && (T_api_Reply.Addr rv == 0 && (T_api_Reply.Size rv == 0 && (T_api_Reply.Value rv == y2 && (ya.Blocks (T_api_Reply.Stats rv) == 0 && (ya.Asked (T_api_Reply.Stats rv) == 0 && (ya.Words (T_api_Reply.Stats rv) == 0 && (ya.Kept (T_api_Reply.Stats rv) == 0 && (ya.Open (T_api_Reply.Stats rv) == 0 && (ya.Mapped (T_api_Reply.Stats rv) == 0 && (ya.Used (T_api_Reply.Stats rv) == 0 && Bool.true)))))) && Bool.true))))), (yg)))) else (bif (!(T_api_Reply.Err rv == 0 && (T_api_Reply.Addr rv == 0 && (T_api_Reply.Size rv == 0 && (T_api_Reply.Value rv == 0 && (ya.Blocks (T_api_Reply.Stats rv) == 0 && (ya.Asked (T_api_Reply.Stats rv) == 0 && (ya.Words (T_api_Reply.Stats rv) == 0 && (ya.Kept (T_api_Reply.Stats rv) == 0 && (ya.Open (T_api_Reply.Stats rv) == 0 && (ya.Mapped (T_api_Reply.Stats rv) == 0 && (ya.Used (T_api_Reply.Stats rv) == 0 && Bool.true)))))) && Bool.true)))))) then some (((Bool.false), (yg))) else ((yq m_lv (yc.Addr c)).bind fun y3 => (bif (!Prod.snd (Prod.snd y3)) then none else ((ym m_lv).bind fun y4 => (bif (inR (IntKind.wrap IntKind.i64 (yc.Addr c - y4)) (List.length yg)) then (bif (inR (offs (IntKind.wrap IntKind.i64 (yc.Addr c - y4)) 0) (List.length yg)) then some (((Bool.true), (List.set yg (Int.toNat (offs (IntKind.wrap IntKind.i64 (yc.Addr c - y4)) 0)) (yc.Value c)))) else none) else none))))))))
noncomputable def y1c (c : yc) (rv : T_api_Reply) (m_lv : ye) (yg : List Int) (yf : List (List Int)) : Option (Bool × (List (List Int)) × (List Int)) :=
  (bif (T_api_Reply.Err rv == 8 && (T_api_Reply.Addr rv == 0 && (T_api_Reply.Size rv == 0 && (T_api_Reply.Value rv == 0 && (ya.Blocks (T_api_Reply.Stats rv) == 0 && (ya.Asked (T_api_Reply.Stats rv) == 0 && (ya.Words (T_api_Reply.Stats rv) == 0 && (ya.Kept (T_api_Reply.Stats rv) == 0 && (ya.Open (T_api_Reply.Stats rv) == 0 && (ya.Mapped (T_api_Reply.Stats rv) == 0 && (ya.Used (T_api_Reply.Stats rv) == 0 && Bool.true)))))) && Bool.true))))) then some (((Bool.true), (yf), (yg))) else ((y22 c).bind fun y0 => (bif (y0 != 0) then some (((T_api_Reply.Err rv == y0 && (T_api_Reply.Addr rv == 0 && (T_api_Reply.Size rv == 0 && (T_api_Reply.Value rv == 0 && (ya.Blocks (T_api_Reply.Stats rv) == 0 && (ya.Asked (T_api_Reply.Stats rv) == 0 && (ya.Words (T_api_Reply.Stats rv) == 0 && (ya.Kept (T_api_Reply.Stats rv) == 0 && (ya.Open (T_api_Reply.Stats rv) == 0 && (ya.Mapped (T_api_Reply.Stats rv) == 0 && (ya.Used (T_api_Reply.Stats rv) == 0 && Bool.true)))))) && Bool.true))))), (yf), (yg))) else (bif (yc.Kind c == 1) then ((y01 c rv m_lv yg yf).bind fun y1 => some (((Prod.fst y1), (Prod.fst (Prod.snd y1)), (Prod.snd (Prod.snd y1))))) else (bif (yc.Kind c == 3) then ((y01 c rv m_lv yg yf).bind fun y2 => some (((Prod.fst y2), (Prod.fst (Prod.snd y2)), (Prod.snd (Prod.snd y2))))) else (bif (yc.Kind c == 5) then ((y01 c rv m_lv yg yf).bind fun y3 => some (((Prod.fst y3), (Prod.fst (Prod.snd y3)), (Prod.snd (Prod.snd y3))))) else (bif (yc.Kind c == 4) then (bif (yc.Addr c == 0) then ((y01 c rv m_lv yg yf).bind fun y4 => some (((Prod.fst y4), (Prod.fst (Prod.snd y4)), (Prod.snd (Prod.snd y4))))) else ((y1x c rv m_lv yg yf).bind fun y5 => some (((Prod.fst y5), (Prod.fst (Prod.snd y5)), (Prod.snd (Prod.snd y5)))))) else (bif (yc.Kind c == 2) then ((y1y c rv m_lv yg yf).bind fun y6 => some (((Prod.fst y6), (Prod.snd y6), (yg)))) else (bif (yc.Kind c == 6) then ((y1w c rv m_lv yg yf).bind fun y7 => some (((y7), (yf), (yg)))) else (bif (yc.Kind c == 7) then some (((T_api_Reply.Err rv == 0 && (T_api_Reply.Addr rv == 0 && (T_api_Reply.Size rv == 0 && (T_api_Reply.Value rv == 0 && (ya.Blocks (T_api_Reply.Stats rv) == 0 && (ya.Asked (T_api_Reply.Stats rv) == 0 && (ya.Words (T_api_Reply.Stats rv) == 0 && (ya.Kept (T_api_Reply.Stats rv) == 0 && (ya.Open (T_api_Reply.Stats rv) == 0 && (ya.Mapped (T_api_Reply.Stats rv) == 0 && (ya.Used (T_api_Reply.Stats rv) == 0 && Bool.true)))))) && Bool.true))))), (yf), (yg))) else (bif (yc.Kind c == 9) then some (((T_api_Reply.Err rv == 0 && (T_api_Reply.Addr rv == 0 && (T_api_Reply.Size rv == 0 && (T_api_Reply.Value rv == 0 && (ya.Blocks (T_api_Reply.Stats rv) == 0 && (ya.Asked (T_api_Reply.Stats rv) == 0 && (ya.Words (T_api_Reply.Stats rv) == 0 && (ya.Kept (T_api_Reply.Stats rv) == 0 && (ya.Open (T_api_Reply.Stats rv) == 0 && (ya.Mapped (T_api_Reply.Stats rv) == 0 && (ya.Used (T_api_Reply.Stats rv) == 0 && Bool.true)))))) && Bool.true))))), (yf), (yg))) else (bif (yc.Kind c == 8) then (bif (T_api_Reply.Err rv == 0 && (T_api_Reply.Addr rv == 0 && (T_api_Reply.Size rv == T_api_Reply.Size rv && (T_api_Reply.Value rv == 0 && (ya.Blocks (T_api_Reply.Stats rv) == 0 && (ya.Asked (T_api_Reply.Stats rv) == 0 && (ya.Words (T_api_Reply.Stats rv) == 0 && (ya.Kept (T_api_Reply.Stats rv) == 0 && (ya.Open (T_api_Reply.Stats rv) == 0 && (ya.Mapped (T_api_Reply.Stats rv) == 0 && (ya.Used (T_api_Reply.Stats rv) == 0 && Bool.true)))))) && Bool.true))))) then (bif (Decidable.decide (T_api_Reply.Size rv ≥ 0)) then ((y1i m_lv).bind fun y8 => some (((Decidable.decide (T_api_Reply.Size rv ≤ yb.Pages y8)), (yf), (yg)))) else some (((Bool.false), (yf), (yg)))) else some (((Bool.false), (yf), (yg)))) else (bif (yc.Kind c == 10) then ((y20 rv m_lv yg yf).bind fun y9 => some (((y9), (yf), (yg)))) else ((y21 c rv m_lv yg yf).bind fun y10 => some (((Prod.fst y10), (yf), (Prod.snd y10)))))))))))))))))
noncomputable def y1p (c : yc) (rv : T_api_Reply) : Option (Bool) :=
  some ((Bool.false))
attribute [local irreducible] Loop ex exF contK roundK retK at_ bodyOf mkEnv exFW retW
theorem yj9 : SpecOK Try.prog elTT 10 (yjw y3y) := by
  refine spec_of_exFW (cfg := (yb4 y1q y0j ym)) (yn rfl rfl rfl) (yj yea (yj (inlS_ok (cfg := cfgB) (yn rfl rfl rfl) (nosig rfl) (by kernel_rfl) (by kernel_rfl) (by kernel_rfl)) (yj ya1 (yj y3x yp)))) (pre := []) (wk := wk_model_New) (fn := Try.f10) (by kernel_rfl) (by kernel_rfl) (by kernel_rfl) ?_
  intro args H K h
  change y8j y3y args H K at h
  unfold y8j at h
  repeat first | (obtain ⟨_, h⟩ := h) | replace h := Des.el h
  subst_vars
  refine Eq.mpr (yfb y1q y0j ym _ K) ?_
  unfold y3y at h
  revert h
  exact bind_So fun y0 => br_So (fun h => h) (bind_So fun y1 => bind_So fun y2 => req_So (fun h => h))
theorem yas : SpecOK Try.prog elTT 77 (y9e yw) := by
  refine spec_of_exF (cfg := (ydj y2r)) (yn rfl rfl rfl) (yj yha yp) (fn := Try.f77) (by kernel_rfl) (by kernel_rfl) (by kernel_rfl) ?_
  intro args H K h
  change y5p yw args H K at h
  unfold y5p at h
  repeat first | (obtain ⟨_, h⟩ := h) | replace h := Des.el h
  subst_vars
  refine Eq.mpr (yjn y2r _ _ K) ?_
  unfold yw at h
  revert h
  exact br_So (fun h => h) (bind_So fun y0 => fun h => h)
theorem y5m : SpecOK Try.prog elTT 76 (y53 yx) := by
  refine spec_of_exF (cfg := ydv) (yn rfl rfl rfl) yp (fn := Try.f76) (by kernel_rfl) (by kernel_rfl) (by kernel_rfl) ?_
  intro args H K h
  change y6y yx args H K at h
  unfold y6y at h
  repeat first | (obtain ⟨_, h⟩ := h) | replace h := Des.el h
  subst_vars
  refine Eq.mpr (yf7 _ K) ?_
  unfold yx at h
  revert h
  exact fun h => h
theorem yam : SpecOK Try.prog elTT 20 (y9o y0i) := by
  refine spec_of_exF (cfg := (ye8 ym yq)) (yn rfl rfl rfl) (yj (inlSR_ok (ro := (⟨true, fun _ => false, fun i => Nat.beq i 0 || Nat.beq i 1⟩ : RO) ) (inlS_ok (cfg := { cfgB with sigs := (sigC 86 (y2w yq) (sigC 23 (y2a ym) sigN)), plan := fun r => match r with | 4 => some (List.range 13, 0) | _ => none }) (yn rfl rfl rfl) (yj y4w (yj y3x yp)) (by kernel_rfl) (by kernel_rfl) (by kernel_rfl))) yp) (fn := Try.f20) (by kernel_rfl) (by kernel_rfl) (by kernel_rfl) ?_
  intro args H K h
  change y91 y0i args H K at h
  unfold y91 at h
  repeat first | (obtain ⟨_, h⟩ := h) | replace h := Des.el h
  subst_vars
  refine Eq.mpr (yh3 ym yq _ _ _ _ K) ?_
  unfold y0i at h
  revert h
  exact bind_So fun y0 => br_So (fun h => h) (bind_So fun y1 => req_So (req_So (fun h => h)))
theorem ybg : SpecOK Try.prog elTT 20 (y63 y0z) := by
  refine spec_of_exF (cfg := (ya4 ym yq)) (yn rfl rfl rfl) (yj (inlSR_ok (ro := (⟨true, fun _ => false, fun i => Nat.beq i 0 || Nat.beq i 1⟩ : RO) ) (inlS_ok (cfg := { cfgB with sigs := (sigC 86 (y2w yq) (sigC 23 (y2a ym) sigN)), plan := fun r => match r with | 4 => some (List.range 13, 0) | _ => none }) (yn rfl rfl rfl) (yj y4w (yj y3x yp)) (by kernel_rfl) (by kernel_rfl) (by kernel_rfl))) yp) (fn := Try.f20) (by kernel_rfl) (by kernel_rfl) (by kernel_rfl) ?_
  intro args H K h
  change y9b y0z args H K at h
  unfold y9b at h
  repeat first | (obtain ⟨_, h⟩ := h) | replace h := Des.el h
  subst_vars
  refine Eq.mpr (yj4 ym yq _ K) ?_
  unfold y0z at h
  revert h
  exact fun h => h
theorem lpok_model_Model_Block_L1 (a : Int) (m_lv : ye) (yg : List Int) (yf : List (List Int)) (iv : Int) (K : V → Heap → Prop) : So (y83 (a) (yf) iv) (fun (x : Int × Int × Bool) => K (.tup [vi (x.1), vi (x.2.1), vb (x.2.2)]) [.rcells (yk m_lv ++ [.ptr 1 0, .row 2]), .rcells [.row 3], .row 0 yg true, .row 70 yf true]) → Loop (y3g yu y0x) (⟨46, 4⟩ : Cx) (at_ (bodyOf Try.f21) [1, 0, 1, 1, 1, 0, 0, 0]) (mkEnv [(0, .ptr 0 0), (1, vi (a)), (7, vi (iv))]) [.rcells (yk m_lv ++ [.ptr 1 0, .row 2]), .rcells [.row 3], .row 0 (yg : List (Int)) Bool.true, .row 70 (yf : List (List Int)) Bool.true] (contK (y3g yu y0x) (⟨46, 4⟩ : Cx) (bodyOf Try.f21) [1, 0, 1, 1, 1, 0, 0] (retK (y3g yu y0x) Try.f21 4 K)) := by
  refine loopK_So (fun (s_ : Int) => (mkEnv [(0, .ptr 0 0), (1, vi (a)), (7, vi ((s_)))])) (fun (s_ : Int) => [.rcells (yk m_lv ++ [.ptr 1 0, .row 2]), .rcells [.row 3], .row 0 (yg : List (Int)) Bool.true, .row 70 (yf : List (List Int)) Bool.true]) (fun (x : Int × Int × Bool) => K (.tup [vi (x.1), vi (x.2.1), vb (x.2.2)]) [.rcells (yk m_lv ++ [.ptr 1 0, .row 2]), .rcells [.row 3], .row 0 yg true, .row 70 yf true]) ?_ iv
  intro s_ J1 h
  clear iv
  revert h; revert s_; intro iv h
  refine Eq.mpr (yj8 yu y0x a m_lv yg yf iv K J1) ?_
  have h : So (y3t (a) (yf) iv) _ := h
  unfold y3t at h
  revert h
  exact bind_So fun y0 => br_So (bind_So fun y1 => br_So (fun h => h) (br_So (fun h => h) (fun h => h))) (fun h => h)
theorem yb7 : SpecOK Try.prog elTT 21 (y6b y0k) := by
  refine spec_of_exF (cfg := (y3g yu y0x)) (yn rfl rfl rfl) (yj y50 (yj yau yp)) (fn := Try.f21) (by kernel_rfl) (by kernel_rfl) (by kernel_rfl) ?_
  intro args H K h
  change y9i y0k args H K at h
  unfold y9i at h
  repeat first | (obtain ⟨_, h⟩ := h) | replace h := Des.el h
  subst_vars
  refine Eq.mpr (yjd yu y0x _ _ _ _ K) ?_
  unfold y0k at h
  revert h
  exact lpok_model_Model_Block_L1 _ _ _ _ _ K
theorem yah : SpecOK Try.prog elTT 21 (y8a y0y) := by
  refine spec_of_exF (cfg := (yc7 yu y0x)) (yn rfl rfl rfl) (yj y50 (yj yau yp)) (fn := Try.f21) (by kernel_rfl) (by kernel_rfl) (by kernel_rfl) ?_
  intro args H K h
  change y6a y0y args H K at h
  unfold y6a at h
  repeat first | (obtain ⟨_, h⟩ := h) | replace h := Des.el h
  subst_vars
  refine Eq.mpr (yic yu y0x _ K) ?_
  unfold y0y at h
  revert h
  exact fun h => h
theorem lpok_model_Model_fits_L1 (c : yc) (rv : T_api_Reply) (m_lv : ye) (yg : List Int) (yf : List (List Int)) (t58 : Int) (t59 : Int) (K : V → Heap → Prop) : So (y4z (rv) (m_lv) (yg) (yf) (t58) t59) (fun (x : Bool) => K (vb (x)) [.rcells (yk m_lv ++ [.ptr 1 0, .row 2]), .rcells [.row 3], .row 0 yg true, .row 70 yf true]) → Loop (y2e yw ym yq y0j y0y y0k) (⟨74, 4⟩ : Cx) (at_ (bodyOf Try.f73) [1, 1, 1, 1, 1, 0, 1, 0, 0]) (mkEnv [(0, .ptr 0 0), (5, .ptr 4 0), (58, vi (t58)), (59, vi (t59))]) [.rcells (yk m_lv ++ [.ptr 1 0, .row 2]), .rcells [.row 3], .row 0 (yg : List (Int)) Bool.true, .row 70 (yf : List (List Int)) Bool.true, .cells 46 (y07 rv)] (contK (y2e yw ym yq y0j y0y y0k) (⟨74, 4⟩ : Cx) (bodyOf Try.f73) [1, 1, 1, 1, 1, 0, 1, 0] (retK (y2e yw ym yq y0j y0y y0k) Try.f73 4 K)) := by
  refine loopK_So (fun (s_ : Int) => (mkEnv [(0, .ptr 0 0), (5, .ptr 4 0), (58, vi (t58)), (59, vi ((s_)))])) (fun (s_ : Int) => [.rcells (yk m_lv ++ [.ptr 1 0, .row 2]), .rcells [.row 3], .row 0 (yg : List (Int)) Bool.true, .row 70 (yf : List (List Int)) Bool.true, .cells 46 (y07 rv)]) (fun (x : Bool) => K (vb (x)) [.rcells (yk m_lv ++ [.ptr 1 0, .row 2]), .rcells [.row 3], .row 0 yg true, .row 70 yf true]) ?_ t59
  intro s_ J1 h
  clear t59
  revert h; revert s_; intro t59 h
  refine Eq.mpr (ygj yw ym yq y0j y0y y0k c rv m_lv yg yf t58 t59 K J1) ?_
  have h : So (y4k (rv) (m_lv) (yg) (yf) (t58) t59) _ := h
  unfold y4k at h
  revert h
  exact br_So (bind_So fun y0 => br_So (fun h => h) (fun h => h)) (fun h => h)
theorem yii : SpecOK Try.prog elTT 73 (ybk y1j) := by
  refine spec_of_exF (cfg := (y2e yw ym yq y0j y0y y0k)) (yn rfl rfl rfl) (yj yas (yj (inlSR_ok (ro := (⟨true, fun _ => false, fun i => Nat.beq i 0 || Nat.beq i 1⟩ : RO) ) (inlS_ok (cfg := { cfgB with sigs := (sigC 86 (y2w yq) (sigC 23 (y2a ym) sigN)), plan := fun r => match r with | 4 => some (List.range 13, 0) | _ => none }) (yn rfl rfl rfl) (yj y4w (yj y3x yp)) (by kernel_rfl) (by kernel_rfl) (by kernel_rfl))) (yj ya1 (yj (altNil_ok yb7 yah) yp)))) (fn := Try.f73) (by kernel_rfl) (by kernel_rfl) (by kernel_rfl) ?_
  intro args H K h
  change y69 y1j args H K at h
  unfold y69 at h
  repeat first | (obtain ⟨_, h⟩ := h) | replace h := Des.el h
  subst_vars
  refine Eq.mpr (yhi yw ym yq y0j y0y y0k _ _ _ _ _ K) ?_
  unfold y1j at h
  revert h
  exact br_So (bind_So fun y0 => br_So (fun h => h) (br_So (fun h => h) (req_So (br_So (fun h => h) (bind_So fun y1 => br_So (fun h => h) (bind_So fun y2 => req_So (bind_So fun y3 => br_So (fun h => h) (lpok_model_Model_fits_L1 (by first | assumption | exact default) _ _ _ _ _ _ K)))))))) (bind_So fun y4 => br_So (fun h => h) (br_So (fun h => h) (br_So (fun h => h) (bind_So fun y5 => br_So (fun h => h) (bind_So fun y6 => req_So (bind_So fun y7 => br_So (fun h => h) (lpok_model_Model_fits_L1 (by first | assumption | exact default) _ _ _ _ _ _ K)))))))
theorem lpok_model_Model_fresh_L1 (c : yc) (rv : T_api_Reply) (m_lv : ye) (yg : List Int) (yf : List (List Int)) (U : TypeId) (t35 : Int) (y0d : List Int) (w : List (List Int)) (K : V → Heap → Prop) : So (y5f (rv) (m_lv) (w) (t35, y0d)) (fun (x : Bool × (List (List Int)) × (List Int)) => K (vb (x.1)) [.rcells (yk m_lv ++ [.ptr 1 0, .row 2]), .cells U [.row 4], .row 0 (x.2.2) false, .dead, .row 70 (x.2.1) false]) → Loop (y3r y1j yy ym yq) (⟨46, 4⟩ : Cx) (at_ (bodyOf Try.f36) [1, 1, 1, 0, 1, 0, 1, 0, 0]) (mkEnv [(0, .ptr 0 0), (5, .ptr 4 0), (34, vi (T_api_Reply.Size rv)), (35, vi (t35))]) [.rcells (yk m_lv ++ [.ptr 1 0, .row 2]), .cells U [.row 5], .row 0 (y0d : List (Int)) Bool.false, .dead, .cells 46 (y07 rv), .row 70 (w : List (List Int)) Bool.false] (contK (y3r y1j yy ym yq) (⟨46, 4⟩ : Cx) (bodyOf Try.f36) [1, 1, 1, 0, 1, 0, 1, 0] (retW (y3r y1j yy ym yq) wk_model_Model_fresh Try.f36 4 K)) := by
  refine loopK_So (fun (s_ : Int × (List Int)) => (mkEnv [(0, .ptr 0 0), (5, .ptr 4 0), (34, vi (T_api_Reply.Size rv)), (35, vi ((s_.1)))])) (fun (s_ : Int × (List Int)) => [.rcells (yk m_lv ++ [.ptr 1 0, .row 2]), .cells U [.row 5], .row 0 ((s_.2) : List (Int)) Bool.false, .dead, .cells 46 (y07 rv), .row 70 (w : List (List Int)) Bool.false]) (fun (x : Bool × (List (List Int)) × (List Int)) => K (vb (x.1)) [.rcells (yk m_lv ++ [.ptr 1 0, .row 2]), .cells U [.row 4], .row 0 (x.2.2) false, .dead, .row 70 (x.2.1) false]) ?_ (t35, y0d)
  intro s_ J1 h
  clear t35
  clear y0d
  obtain ⟨t35, y0d⟩ := s_
  refine Eq.mpr (yis y1j yy ym yq c rv m_lv yg yf U t35 y0d w K J1) ?_
  have h : So (y3z (rv) (m_lv) (w) t35 y0d) _ := h
  unfold y3z at h
  revert h
  exact br_So (bind_So fun y0 => br_So (fun h => h) (bind_So fun y1 => req_So (req_So (fun h => h)))) (fun h => h)
theorem y8l : SpecOK Try.prog elTT 36 (y5b y01) := by
  refine spec_of_exFW (cfg := (y3r y1j yy ym yq)) (yn rfl rfl rfl) (yj yii (yj ybh (yj (inlSR_ok (ro := (⟨true, fun _ => false, fun i => Nat.beq i 0 || Nat.beq i 1⟩ : RO) ) (inlS_ok (cfg := { cfgB with sigs := (sigC 86 (y2w yq) (sigC 23 (y2a ym) sigN)), plan := fun r => match r with | 4 => some (List.range 13, 0) | _ => none }) (yn rfl rfl rfl) (yj y4w (yj y3x yp)) (by kernel_rfl) (by kernel_rfl) (by kernel_rfl))) yp))) (pre := []) (wk := wk_model_Model_fresh) (fn := Try.f36) (by kernel_rfl) (by kernel_rfl) (by kernel_rfl) ?_
  intro args H K h
  change y6r y01 args H K at h
  unfold y6r at h
  repeat first | (obtain ⟨_, h⟩ := h) | replace h := Des.el h
  subst_vars
  refine Eq.mpr (yej y1j yy ym yq _ _ _ _ _ _ K) ?_
  unfold y01 at h
  revert h
  exact br_So (fun h => h) (bind_So fun y0 => br_So (fun h => h) (bind_So fun y1 => br_So (lpok_model_Model_fresh_L1 (by first | assumption | exact default) _ _ (by first | assumption | exact default) (by first | assumption | exact default) _ _ _ _ K) (fun h => h)))
theorem lpok_model_Model_again_L1 (c : yc) (rv : T_api_Reply) (m_lv : ye) (yg : List Int) (yf : List (List Int)) (U : TypeId) (t68 : Int) (t69 : Int) (y0d : List Int) (w : List (List Int)) (K : V → Heap → Prop) : So (y5h (c) (rv) (m_lv) (t68) (w) (t69, y0d)) (fun (x : Bool × (List (List Int)) × (List Int)) => K (vb (x.1)) [.rcells (yk m_lv ++ [.ptr 1 0, .row 2]), .cells U [.row 4], .row 0 (x.2.2) false, .dead, .row 70 (x.2.1) false]) → Loop (y28 y03 yx yw yy y01 ym yq y0z y0i y0c) (⟨93, 4⟩ : Cx) (at_ (bodyOf Try.f37) [1, 1, 1, 0, 1, 0, 0]) (mkEnv [(0, .ptr 0 0), (4, .ptr 4 0), (5, .ptr 5 0), (68, vi (t68)), (69, vi (t69))]) [.rcells (yk m_lv ++ [.ptr 1 0, .row 2]), .cells U [.row 6], .row 0 (y0d : List (Int)) Bool.false, .dead, .cells 42 (y0p c), .cells 46 (y07 rv), .row 70 (w : List (List Int)) Bool.false] (contK (y28 y03 yx yw yy y01 ym yq y0z y0i y0c) (⟨93, 4⟩ : Cx) (bodyOf Try.f37) [1, 1, 1, 0, 1, 0] (retW (y28 y03 yx yw yy y01 ym yq y0z y0i y0c) wk_model_Model_again Try.f37 4 K)) := by
  refine loopK_So (fun (s_ : Int × (List Int)) => (mkEnv [(0, .ptr 0 0), (4, .ptr 4 0), (5, .ptr 5 0), (68, vi (t68)), (69, vi ((s_.1)))])) (fun (s_ : Int × (List Int)) => [.rcells (yk m_lv ++ [.ptr 1 0, .row 2]), .cells U [.row 6], .row 0 ((s_.2) : List (Int)) Bool.false, .dead, .cells 42 (y0p c), .cells 46 (y07 rv), .row 70 (w : List (List Int)) Bool.false]) (fun (x : Bool × (List (List Int)) × (List Int)) => K (vb (x.1)) [.rcells (yk m_lv ++ [.ptr 1 0, .row 2]), .cells U [.row 4], .row 0 (x.2.2) false, .dead, .row 70 (x.2.1) false]) ?_ (t69, y0d)
  intro s_ J1 h
  clear t69
  clear y0d
  obtain ⟨t69, y0d⟩ := s_
  refine Eq.mpr (yh4 y03 yx yw yy y01 ym yq y0z y0i y0c c rv m_lv yg yf U t68 t69 y0d w K J1) ?_
  have h : So (y4p (c) (rv) (m_lv) (t68) (w) t69 y0d) _ := h
  unfold y4p at h
  revert h
  exact br_So (bind_So fun y0 => br_So (bind_So fun y1 => fun h => h) (bind_So fun y2 => req_So (bind_So fun y3 => req_So (fun h => h)))) (bind_So fun y4 => fun h => h)
theorem ye6 : SpecOK Try.prog elTT 37 (y77 y1x) := by
  refine spec_of_exFW (cfg := (y28 y03 yx yw yy y01 ym yq y0z y0i y0c)) (yn rfl rfl rfl) (yj y5z (yj y5m (yj yas (yj ybh (yj y8l (yj (inlSR_ok (ro := (⟨true, fun _ => false, fun i => Nat.beq i 0 || Nat.beq i 1⟩ : RO) ) (inlS_ok (cfg := { cfgB with sigs := (sigC 86 (y2w yq) (sigC 23 (y2a ym) sigN)), plan := fun r => match r with | 4 => some (List.range 13, 0) | _ => none }) (yn rfl rfl rfl) (yj y4w (yj y3x yp)) (by kernel_rfl) (by kernel_rfl) (by kernel_rfl))) (yj (altNil_ok yam ybg) (yj ydh yp)))))))) (pre := []) (wk := wk_model_Model_again) (fn := Try.f37) (by kernel_rfl) (by kernel_rfl) (by kernel_rfl) ?_
  intro args H K h
  change y6i y1x args H K at h
  unfold y6i at h
  repeat first | (obtain ⟨_, h⟩ := h) | replace h := Des.el h
  subst_vars
  refine Eq.mpr (yjg y03 yx yw yy y01 ym yq y0z y0i y0c _ _ _ _ _ _ K) ?_
  unfold y1x at h
  revert h
  exact alt_So (bind_So fun y0 => br_So (bind_So fun y1 => fun h => h) (bind_So fun y2 => br_So (br_So (bind_So fun y3 => fun h => h) (fun h => h)) (bind_So fun y4 => br_So (fun h => h) (br_So (fun h => h) (lpok_model_Model_again_L1 _ _ _ (by first | assumption | exact default) (by first | assumption | exact default) _ _ _ _ _ K))))) (bind_So fun y5 => br_So (bind_So fun y6 => fun h => h) (bind_So fun y7 => br_So (br_So (bind_So fun y8 => fun h => h) (fun h => h)) (bind_So fun y9 => br_So (fun h => h) (br_So (fun h => h) (lpok_model_Model_again_L1 _ _ _ (by first | assumption | exact default) (by first | assumption | exact default) _ _ _ _ _ K)))))
theorem yaz : SpecOK Try.prog elTT 38 (y5q y1y) := by
  refine spec_of_exFW (cfg := (ybc y03 yx y0c)) (yn rfl rfl rfl) (yj y5z (yj y5m (yj ydh yp))) (pre := []) (wk := wk_model_Model_free) (fn := Try.f38) (by kernel_rfl) (by kernel_rfl) (by kernel_rfl) ?_
  intro args H K h
  change y9h y1y args H K at h
  unfold y9h at h
  repeat first | (obtain ⟨_, h⟩ := h) | replace h := Des.el h
  subst_vars
  refine Eq.mpr (yi1 y03 yx y0c _ _ _ _ _ _ K) ?_
  unfold y1y at h
  revert h
  exact alt_So (bind_So fun y0 => br_So (br_So (bind_So fun y1 => fun h => h) (br_So (fun h => h) (bind_So fun y2 => fun h => h))) (br_So (fun h => h) (bind_So fun y3 => fun h => h))) (bind_So fun y4 => br_So (br_So (bind_So fun y5 => fun h => h) (br_So (fun h => h) (bind_So fun y6 => fun h => h))) (br_So (fun h => h) (bind_So fun y7 => fun h => h)))
theorem yc0 : SpecOK Try.prog elTT 39 (y68 y1w) := by
  refine spec_of_exF (cfg := (ydc y03 yx)) (yn rfl rfl rfl) (yj y5z (yj y5m yp)) (fn := Try.f39) (by kernel_rfl) (by kernel_rfl) (by kernel_rfl) ?_
  intro args H K h
  change y7g y1w args H K at h
  unfold y7g at h
  repeat first | (obtain ⟨_, h⟩ := h) | replace h := Des.el h
  subst_vars
  refine Eq.mpr (yg0 y03 yx _ _ _ _ _ K) ?_
  unfold y1w at h
  revert h
  exact alt_So (bind_So fun y0 => br_So (bind_So fun y1 => fun h => h) (fun h => h)) (bind_So fun y2 => br_So (bind_So fun y3 => fun h => h) (fun h => h))
theorem yb2 : SpecOK Try.prog elTT 41 (y73 y20) := by
  refine spec_of_exF (cfg := (yak y1a y3s y2s y27 y1i yu)) (yn rfl rfl rfl) (yj yd2 (yj (altP_ok yet yeg) (yj yew (yj y8c (yj y50 yp))))) (fn := Try.f41) (by kernel_rfl) (by kernel_rfl) (by kernel_rfl) ?_
  intro args H K h
  change y78 y20 args H K at h
  unfold y78 at h
  repeat first | (obtain ⟨_, h⟩ := h) | replace h := Des.el h
  subst_vars
  refine Eq.mpr (yfw y1a y3s y2s y27 y1i yu _ _ _ _ K) ?_
  unfold y20 at h
  revert h
  exact bind_So fun y0 => br_So (fun h => h) (bind_So fun y1 => br_So (fun h => h) (bind_So fun y2 => br_So (fun h => h) (bind_So fun y3 => br_So (br_So (fun h => h) (fun h => h)) (fun h => h))))
theorem ye5 : SpecOK Try.prog elTT 42 (y8o y21) := by
  refine spec_of_exF (cfg := (ycr y0y y0k yx y0z y0i ym yq)) (yn rfl rfl rfl) (yj (altNil_ok yb7 yah) (yj y5m (yj (altNil_ok yam ybg) (yj (inlSR_ok (ro := (⟨true, fun _ => false, fun i => Nat.beq i 0 || Nat.beq i 1⟩ : RO) ) (inlS_ok (cfg := { cfgB with sigs := (sigC 86 (y2w yq) (sigC 23 (y2a ym) sigN)), plan := fun r => match r with | 4 => some (List.range 13, 0) | _ => none }) (yn rfl rfl rfl) (yj y4w (yj y3x yp)) (by kernel_rfl) (by kernel_rfl) (by kernel_rfl))) yp)))) (fn := Try.f42) (by kernel_rfl) (by kernel_rfl) (by kernel_rfl) ?_
  intro args H K h
  change y7c y21 args H K at h
  unfold y7c at h
  repeat first | (obtain ⟨_, h⟩ := h) | replace h := Des.el h
  subst_vars
  refine Eq.mpr (yfk y0y y0k yx y0z y0i ym yq _ _ _ _ _ K) ?_
  unfold y21 at h
  revert h
  exact bind_So fun y0 => br_So (bind_So fun y1 => fun h => h) (br_So (bind_So fun y2 => fun h => h) (br_So (fun h => h) (bind_So fun y3 => br_So (fun h => h) (bind_So fun y4 => req_So (req_So (fun h => h))))))
theorem yfe : SpecOK Try.prog elTT 15 (y9w y1c) := by
  refine spec_of_exFW (cfg := (yac y22 y01 y1x y1y y1w y1i y20 y21)) (yn rfl rfl rfl) (yj ycy (yj y8l (yj ye6 (yj yaz (yj yc0 (yj y8c (yj yb2 (yj ye5 yp)))))))) (pre := []) (wk := wk_model_Model_Step) (fn := Try.f15) (by kernel_rfl) (by kernel_rfl) (by kernel_rfl) ?_
  intro args H K h
  change y9p y1c args H K at h
  unfold y9p at h
  repeat first | (obtain ⟨_, h⟩ := h) | replace h := Des.el h
  subst_vars
  refine Eq.mpr (yja y22 y01 y1x y1y y1w y1i y20 y21 _ _ _ _ _ _ K) ?_
  unfold y1c at h
  revert h
  exact br_So (fun h => h) (bind_So fun y0 => br_So (fun h => h) (br_So (bind_So fun y1 => fun h => h) (br_So (bind_So fun y2 => fun h => h) (br_So (bind_So fun y3 => fun h => h) (br_So (br_So (bind_So fun y4 => fun h => h) (bind_So fun y5 => fun h => h)) (br_So (bind_So fun y6 => fun h => h) (br_So (bind_So fun y7 => fun h => h) (br_So (fun h => h) (br_So (fun h => h) (br_So (br_So (br_So (bind_So fun y8 => fun h => h) (fun h => h)) (fun h => h)) (br_So (bind_So fun y9 => fun h => h) (bind_So fun y10 => fun h => h))))))))))))
theorem yem : SpecOK Try.prog elTT 15 (ycv y1p) := by
  refine spec_of_exF (cfg := (ye2 y22 y01 y1x y1y y1w y1i y20 y21)) (yn rfl rfl rfl) (yj ycy (yj y8l (yj ye6 (yj yaz (yj yc0 (yj y8c (yj yb2 (yj ye5 yp)))))))) (fn := Try.f15) (by kernel_rfl) (by kernel_rfl) (by kernel_rfl) ?_
  intro args H K h
  change y8w y1p args H K at h
  unfold y8w at h
  repeat first | (obtain ⟨_, h⟩ := h) | replace h := Des.el h
  subst_vars
  refine Eq.mpr (yfg y22 y01 y1x y1y y1w y1i y20 y21 _ _ K) ?_
  unfold y1p at h
  revert h
  exact fun h => h
end Go.Rx
end

section
namespace Go.Rx
open Go.Proofs
theorem offs0 (a : Int) : offs a 0 = a := rfl
theorem scanS {α σ ρ : Type} {step : σ → Option (σ ⊕ ρ)} {l : List α} (st : List α → σ) (I : List α → Prop) (Q : ρ → Prop)
    (go : ∀ A b C, l = A ++ b :: C → I A → (step (st A) = some (.inl (st (A ++ [b]))) ∧ I (A ++ [b])) ∨ ∃ r, step (st A) = some (.inr r) ∧ Q r)
    (fin : I l → ∃ r, step (st l) = some (.inr r) ∧ Q r) (h0 : I []) : ∃ r, loopO step (st []) = some r ∧ Q r := by
  have key : ∀ R A, l = A ++ R → I A → ∃ r, loopO step (st A) = some r ∧ Q r := by
    intro R
    induction R with
    | nil =>
      intro A hA hI
      rw [List.append_nil] at hA
      subst hA
      obtain ⟨r, h1, h2⟩ := fin hI
      exact ⟨r, loopO_end h1, h2⟩
    | cons b R ih =>
      intro A hA hI
      rcases go A b R hA hI with ⟨h1, h2⟩ | ⟨r, h1, h2⟩
      · rw [loopO_go h1]
        exact ih (A ++ [b]) (by simp [hA]) h2
      · exact ⟨r, loopO_end h1, h2⟩
  exact key l [] rfl h0
theorem countS {σ ρ : Type} {step : σ → Option (σ ⊕ ρ)} (st : Nat → σ) (n : Nat) (I : Nat → Prop) (Q : ρ → Prop)
    (go : ∀ i, i < n → I i → (step (st i) = some (.inl (st (i + 1))) ∧ I (i + 1)) ∨ ∃ r, step (st i) = some (.inr r) ∧ Q r)
    (fin : I n → ∃ r, step (st n) = some (.inr r) ∧ Q r) (h0 : I 0) : ∃ r, loopO step (st 0) = some r ∧ Q r := by
  have key : ∀ k i, i + k = n → I i → ∃ r, loopO step (st i) = some r ∧ Q r := by
    intro k
    induction k with
    | zero =>
      intro i hi hI
      have : i = n := by omega
      subst this
      obtain ⟨r, h1, h2⟩ := fin hI
      exact ⟨r, loopO_end h1, h2⟩
    | succ k ih =>
      intro i hi hI
      rcases go i (by omega) hI with ⟨h1, h2⟩ | ⟨r, h1, h2⟩
      · rw [loopO_go h1]
        exact ih (i + 1) (by omega) h2
      · exact ⟨r, loopO_end h1, h2⟩
  exact key n 0 (by omega) h0
theorem mid_get {α : Type} (A : List α) (b : α) (C : List α) (d : α) : (A ++ b :: C).getD A.length d = b := by simp [List.getD]
theorem mid_in {α : Type} (A : List α) (b : α) (C : List α) : inR (A.length : Int) (A ++ b :: C).length = true := inR_nat (by simp)
theorem mid_lt {α : Type} (A : List α) (b : α) (C : List α) : decide ((A.length : Int) < ((A ++ b :: C).length : Int)) = true := decide_eq_true (by simp; omega)
def kk (x : List Int) : Int := x.getD 0 0
def aa (x : List Int) : Int := x.getD 1 0
def ww (x : List Int) : Int := x.getD 2 0
def hasW (x : List Int) (a : Int) : Prop := kk x ≤ a ∧ a < kk x + ww x
instance (x : List Int) (a : Int) : Decidable (hasW x a) := by unfold hasW; infer_instance
structure BOK (lo hi : Int) (x : List Int) : Prop where
  eq : x = [kk x, aa x, ww x]
  lo : lo ≤ kk x
  one : 1 ≤ ww x
  hi : kk x + ww x ≤ hi
  ask : 0 ≤ aa x ∧ aa x ≤ ww x
structure SOK (L : ye) (its : List (List Int)) : Prop where
  lay : LayOK L
  all : ∀ x ∈ its, BOK L.at_10 L.at_11 x
  srt : its.Pairwise fun x y => kk x + ww x ≤ kk y
section
variable {L : ye} {its : List (List Int)}
theorem SOK.big (h : SOK L its) : 128 ≤ L.at_10 ∧ L.at_10 ≤ 20000 ∧ L.at_11 = L.at_10 + L.c.Pages * 32 ∧ 1 ≤ L.c.Pages ∧ L.c.Pages ≤ 256 := by
  have := h.lay.big; have := h.lay.a11; have := h.lay.pages; omega
theorem SOK.parts {A C : List (List Int)} {b : List Int} (h : SOK L its) (e : its = A ++ b :: C) : BOK L.at_10 L.at_11 b ∧ (∀ x ∈ A, kk x + ww x ≤ kk b) ∧ (∀ x ∈ C, kk b + ww b ≤ kk x) := by
  subst e
  have hs := h.srt
  rw [List.pairwise_append] at hs
  exact ⟨h.all b (by simp), fun x hx => hs.2.2 x hx b (by simp), fun x hx => (List.pairwise_cons.1 hs.2.1).1 x hx⟩
theorem SOK.keys {A C : List (List Int)} {b : List Int} (h : SOK L its) (e : its = A ++ b :: C) : (∀ x ∈ A, kk x < kk b) ∧ (∀ x ∈ C, kk b < kk x) := by
  obtain ⟨h1, h2, h3⟩ := h.parts e
  refine ⟨fun x hx => ?_, fun x hx => ?_⟩
  · have := h2 x hx; have := (h.all x (by rw [e]; simp [hx])).one; omega
  · have := h3 x hx; have := h1.one; omega
theorem SOK.uniq (h : SOK L its) {x y : List Int} (hx : x ∈ its) (hy : y ∈ its) (e : kk x = kk y) : x = y := by
  obtain ⟨A, C, eq⟩ := List.append_of_mem hx
  obtain ⟨k1, k2⟩ := h.keys eq
  rw [eq] at hy
  rcases List.mem_append.1 hy with h1 | h1
  · have := k1 y h1; omega
  · rcases List.mem_cons.1 h1 with h1 | h1
    · exact h1.symm
    · have := k2 y h1; omega
def splitP (k : Int) (its A C : List (List Int)) : Prop := its = A ++ C ∧ (∀ x ∈ A, kk x < k) ∧ (∀ x ∈ C, k ≤ kk x)
def headIs (k : Int) : List (List Int) → Bool
  | [] => false
  | b :: _ => kk b == k
theorem SOK.split (h : SOK L its) (k : Int) : ∃ A C, splitP k its A C := by
  have hs := h.srt
  have ho : ∀ x ∈ its, 1 ≤ ww x := fun x hx => (h.all x hx).one
  clear h
  induction its with
  | nil => exact ⟨[], [], rfl, by simp, by simp⟩
  | cons b r ih =>
    obtain ⟨h1, h2⟩ := List.pairwise_cons.1 hs
    by_cases hb : kk b < k
    · obtain ⟨A, C, e, hA, hC⟩ := ih h2 (fun x hx => ho x (by simp [hx]))
      refine ⟨b :: A, C, by rw [e]; rfl, fun x hx => ?_, hC⟩
      rcases List.mem_cons.1 hx with rfl | hx
      · exact hb
      · exact hA x hx
    · refine ⟨[], b :: r, rfl, by simp, fun x hx => ?_⟩
      rcases List.mem_cons.1 hx with rfl | hx
      · omega
      · have := h1 x hx; have := ho b (by simp); omega
theorem split_get {k : Int} {A C : List (List Int)} (h : splitP k its A C) {i : Nat} (hi : i < its.length) : (i < A.length → kk (its.getD i (List.replicate 3 0)) < k) ∧ (A.length ≤ i → k ≤ kk (its.getD i (List.replicate 3 0))) := by
  obtain ⟨e, hA, hC⟩ := h
  have hg : its.getD i (List.replicate 3 0) = its[i] := by simp [List.getD, hi]
  rw [hg]
  refine ⟨fun hl => hA _ ?_, fun hl => hC _ ?_⟩
  · have : its[i] = A[i] := by simp only [e]; rw [List.getElem_append_left hl]
    rw [this]; exact List.getElem_mem _
  · have hl2 : i - A.length < C.length := by rw [e, List.length_append] at hi; omega
    have : its[i] = C[i - A.length] := by simp only [e]; rw [List.getElem_append_right hl]
    rw [this]; exact List.getElem_mem _
theorem place_eq {k : Int} {A C : List (List Int)} (h : splitP k its A C) (hn : its.length ≤ 1048576) : y1d k its = some ((A.length : Int), headIs k C) := by
  obtain ⟨r, h1, h2⟩ := loopO_ind (step := fun s => y4v k its s.1 s.2) (fun s => 0 ≤ s.1 ∧ s.1 ≤ (A.length : Int) ∧ (A.length : Int) ≤ s.2 ∧ s.2 ≤ (its.length : Int)) (fun s => (s.2 - s.1).toNat) (fun r => r = ((A.length : Int), headIs k C))
    (fun s hs => by
      obtain ⟨low, high⟩ := s
      obtain ⟨i1, i2, i3, i4⟩ := hs
      simp only at i1 i2 i3 i4
      have hlen : its.length = A.length + C.length := by rw [h.1, List.length_append]
      by_cases hlt : low < high
      · left
        have hmid : IntKind.wrap IntKind.i64 (low + IntKind.wrap IntKind.i64 (Int.tdiv (IntKind.wrap IntKind.i64 (high - low)) 2)) = low + (high - low) / 2 := by
          rw [wrap_id (x := high - low) (by omega) (by omega), Int.tdiv_eq_ediv_of_nonneg (by omega), wrap_id (x := (high - low) / 2) (by omega) (by omega), wrap_id (by omega) (by omega)]
        obtain ⟨mid, hm⟩ : ∃ mid : Nat, low + (high - low) / 2 = (mid : Int) := ⟨(low + (high - low) / 2).toNat, by omega⟩
        have hml : mid < its.length := by omega
        obtain ⟨g1, g2⟩ := split_get h hml
        simp only [y4v, hmid, offs0, hm, inR_nat hml, decide_eq_true hlt, cond_true, Int.toNat_natCast]
        by_cases hk : kk (its.getD mid (List.replicate 3 0)) < k
        · have hmA : mid < A.length := by
            rcases Nat.lt_or_ge mid A.length with h | h
            · exact h
            · have := g2 h; omega
          refine ⟨((mid : Int) + 1, high), ?_, ⟨by simp only; omega, by simp only; omega, by simp only; omega, by simp only; omega⟩, by simp only; omega⟩
          rw [decide_eq_true (show List.getD (List.getD its mid (List.replicate 3 0)) 0 0 < k from hk), cond_true, wrap_id (by omega) (by omega)]
        · have hmA : A.length ≤ mid := by
            rcases Nat.lt_or_ge mid A.length with h | h
            · exact absurd (g1 h) hk
            · exact h
          refine ⟨(low, (mid : Int)), ?_, ⟨by simp only; omega, by simp only; omega, by simp only; omega, by simp only; omega⟩, by simp only; omega⟩
          rw [decide_eq_false (show ¬ List.getD (List.getD its mid (List.replicate 3 0)) 0 0 < k from hk), cond_false]
      · right
        have hl : low = (A.length : Int) := by omega
        subst hl
        refine ⟨_, ?_, rfl⟩
        simp only [y4v, decide_eq_false hlt, cond_false, offs0, Int.toNat_natCast]
        cases C with
        | nil => rw [decide_eq_false (by simp at hlen; omega)]; rfl
        | cons b C =>
          have e := h.1
          rw [decide_eq_true (by simp at hlen; omega), cond_true, e, mid_in, cond_true, cond_true, mid_get]; rfl)
    ((0 : Int), (its.length : Int)) ⟨by simp, by simp, by simp only; rw [h.1, List.length_append]; omega, by simp⟩
  unfold y1d y5o
  rw [h1, h2]
theorem Get_eq {k : Int} {A C : List (List Int)} (h : splitP k its A C) (hn : its.length ≤ 1048576) : y03 k its = some (match C with | [] => (⟨0, 0⟩, false) | b :: _ => if kk b = k then (⟨aa b, ww b⟩, true) else (⟨0, 0⟩, false)) := by
  unfold y03
  rw [place_eq h hn, Option.bind_some]
  cases C with
  | nil => rfl
  | cons b C =>
    by_cases hb : kk b = k
    · simp only [headIs, hb, beq_self_eq_true, Bool.not_true, cond_false, if_true]
      rw [h.1, offs0, mid_in, cond_true, cond_true, Int.toNat_natCast, mid_get]; rfl
    · have : headIs k (b :: C) = false := by simpa [headIs] using hb
      simp only [this, hb, Bool.not_false, cond_true, if_false]
theorem Cut_eq {k : Int} {A C : List (List Int)} (h : splitP k its A C) (hn : its.length ≤ 1048576) : y0c k its = some (match C with | [] => (false, its) | b :: D => if kk b = k then (true, A ++ D) else (false, its)) := by
  unfold y0c
  rw [place_eq h hn, Option.bind_some]
  cases C with
  | nil => rfl
  | cons b C =>
    have hlen : its.length = A.length + (C.length + 1) := by rw [h.1, List.length_append]; rfl
    by_cases hb : kk b = k
    · simp only [headIs, hb, beq_self_eq_true, Bool.not_true, cond_false, if_true]
      have w : IntKind.wrap IntKind.i64 ((A.length : Int) + 1) = ((A.length + 1 : Nat) : Int) := wrap_succ (by omega)
      rw [w, Int.toNat_natCast, Int.toNat_natCast]
      have e1 : List.take A.length its = A := by rw [h.1]; simp
      have e2 : List.drop (A.length + 1) its = C := by rw [h.1, ← List.drop_drop]; simp
      rw [e1, e2]
      have e3 : List.take (its.length - (A.length + 1)) C = C := by rw [List.take_of_length_le]; omega
      rw [e3, decide_eq_true (by omega), decide_eq_true (by omega), decide_eq_true (by omega), decide_eq_true (by omega), decide_eq_true (by omega)]; rfl
    · have : headIs k (b :: C) = false := by simpa [headIs] using hb
      simp only [this, hb, Bool.not_false, cond_true, if_false]
theorem shove (A C : List (List Int)) (z : List Int) : List.take (A.length + 1) ((A ++ C) ++ [z]) ++ (List.take (min ((A ++ C ++ [z]).length - (A.length + 1)) ((List.take ((A ++ C ++ [z]).length - A.length) (List.drop A.length (A ++ C ++ [z]))).length))
    (List.take ((A ++ C ++ [z]).length - A.length) (List.drop A.length (A ++ C ++ [z]))) ++ List.drop (A.length + 1 + min ((A ++ C ++ [z]).length - (A.length + 1)) ((List.take ((A ++ C ++ [z]).length - A.length) (List.drop A.length (A ++ C ++ [z]))).length)) (A ++ C ++ [z]))
    = A ++ ((C ++ [z]).take 1 ++ C) := by
  have d : List.drop A.length (A ++ C ++ [z]) = C ++ [z] := by rw [List.append_assoc]; simp
  have l : (A ++ C ++ [z]).length = A.length + (C.length + 1) := by simp [Nat.add_assoc]
  rw [d, l, show A.length + (C.length + 1) - A.length = C.length + 1 by omega, show A.length + (C.length + 1) - (A.length + 1) = C.length by omega]
  have t : List.take (C.length + 1) (C ++ [z]) = C ++ [z] := List.take_of_length_le (by simp)
  rw [t, show (C ++ [z]).length = C.length + 1 by simp, Nat.min_eq_left (by omega), show List.take C.length (C ++ [z]) = C by simp]
  rw [show List.drop (A.length + 1 + C.length) (A ++ C ++ [z]) = [] from List.drop_eq_nil_of_le (by rw [l]; omega), List.append_nil]
  rw [List.append_assoc A C [z], List.take_append, List.take_of_length_le (show A.length ≤ A.length + 1 by omega), show A.length + 1 - A.length = 1 by omega, List.append_assoc]
theorem Put_eq {k : Int} {A C : List (List Int)} (v : yi) (h : splitP k its A C) (hn : its.length + 1 ≤ 1048576) : yy k v its = some (match C with | [] => (true, A ++ [k, v.asked, v.words] :: C) | b :: D => if kk b = k then (false, A ++ [k, v.asked, v.words] :: D) else (true, A ++ [k, v.asked, v.words] :: C)) := by
  unfold yy
  rw [place_eq h (by omega), Option.bind_some]
  have hlen : its.length = A.length + C.length := by rw [h.1, List.length_append]
  by_cases hh : headIs k C = true
  · cases C with
    | nil => cases hh
    | cons b D =>
      have hb : kk b = k := by simpa [headIs] using hh
      simp only [hh, cond_true, offs0, Int.toNat_natCast]
      rw [h.1, mid_in, cond_true, cond_true, mid_get]
      simp only [hb, if_true]
      have : List.getD b 0 0 = k := hb
      rw [this, List.set_append_right _ _ (by simp)]
      simp
  · have hf : headIs k C = false := by simpa using hh
    simp only [hf, cond_false, offs0]
    have w : IntKind.wrap IntKind.i64 ((A.length : Int) + 1) = ((A.length + 1 : Nat) : Int) := wrap_succ (by omega)
    have l1 : (its ++ [[(0 : Int), 0, 0]]).length = A.length + C.length + 1 := by simp [hlen]
    rw [w]
    simp only [Int.toNat_natCast]
    rw [decide_eq_true (show its.length + 1 ≤ 1048576 by omega), decide_eq_true (show 0 ≤ ((A.length + 1 : Nat) : Int) ∧ ((A.length + 1 : Nat) : Int) ≤ (((its ++ [[(0 : Int), 0, 0]]).length : Nat) : Int) by omega),
      decide_eq_true (show 0 ≤ ((A.length : Nat) : Int) ∧ ((A.length : Nat) : Int) ≤ (((its ++ [[(0 : Int), 0, 0]]).length : Nat) : Int) by omega), decide_eq_true (by omega), decide_eq_true (by omega)]
    simp only [cond_true]
    have sh := shove A C [(0 : Int), 0, 0]
    rw [← h.1] at sh
    rw [sh]
    have hi : inR (A.length : Int) (A ++ (List.take 1 (C ++ [[(0 : Int), 0, 0]]) ++ C)).length = true := inR_nat (by simp; omega)
    rw [hi]
    simp only [cond_true]
    have fin : List.set (A ++ (List.take 1 (C ++ [[(0 : Int), 0, 0]]) ++ C)) A.length [k, v.asked, v.words] = A ++ [k, v.asked, v.words] :: C := by
      rw [List.set_append_right _ _ (by simp)]
      cases C with
      | nil => simp
      | cons b D => simp
    rw [fin]
    cases C with
    | nil => rfl
    | cons b D =>
      have hb : ¬ kk b = k := by simpa [headIs] using hf
      simp only [hb, if_false]
end
end Go.Rx
end

section
namespace Go.Rx
open Go.ChangeShapes Go.WideShapes Go.ChangeAt Go.RowKit
inductive AK where
  | row (tg : Nat)
  | el (tg : Nat)
def elWf (tg : Nat) (e : El tg) : Prop := ∀ k n, Value.int k n ∈ elEnc tg e → (Lit.int k n).wf = true
def elV : (tg : Nat) → El tg → V
  | 0, (n : Int) => vi n
  | 1, (b : Bool) => vb b
  | t, e => .agg ((elEnc t e).map .ext)
def ArgsOf : List AK → Nat → List V → Heap → Prop
  | [], _, ags, H => ags = [] ∧ H = []
  | .row tg :: ks, n, ags, H => ∃ (l : List (El tg)) (ags' : List V) (H' : Heap), ags = .row n :: ags' ∧ H = .row tg l true :: H' ∧ (∀ e ∈ l, elWf tg e) ∧ l.length ≤ maxLen ∧ ArgsOf ks (n + 1) ags' H'
  | .el tg :: ks, n, ags, H => ∃ (e : El tg) (ags' : List V), ags = elV tg e :: ags' ∧ elWf tg e ∧ ArgsOf ks n ags' H
def lawS (ks : List AK) : Spec where
  tr := fun args H K => ArgsOf ks 0 args H ∧ ∀ H', K (vb true) H'
section
variable {P : Program} {elT : ET}
structure ElOK (P : Program) (elT : ET) (tg : Nat) : Prop where
  cells : P.cellsOf (elT tg) = elM tg
  reads : ∀ {H : Type} (enc : TypeId × Value → H) (W : World) (base : Nat) (sp : Nat → Bool) (held : Bool) (fuel : Nat) (cs : List Value) (x : DataW H × List MemPlace),
    DataW.trod enc P W base sp held fuel (elT tg) cs = some x → ∃ e : El tg, cs = elEnc tg e ∧ elWf tg e
  value : ∀ (W : World) (r : Reach) (b : Nat) (v : Value) (e : El tg), Value.okWide P W r b (elT tg) v → v.cells.toList = elEnc tg e → ∀ ρ, (elV tg e).den ρ = some v
variable {H : Type} {enc : TypeId × Value → H} {W : World} {sp : Nat → Bool} {held : Bool}
theorem open_row {tg : Nat} (ok : ElOK P elT tg) {t : TypeId} (ht : P.underlying t = some (.slice (elT tg))) {r : Reach} {b0 : Nat} {v : Value} {d : DataW H} {ps : List MemPlace}
    (hval : Value.okWide P W r b0 t v) (hd : DataW.Trod enc P W 0 sp held t v d ps) :
    ∃ (l : List (El tg)) (F : List Nat), (∀ n ∈ F, n < W.heap.size) ∧ (∀ e ∈ l, elWf tg e) ∧ l.length ≤ maxLen ∧ (∃ a cap, v = .slice a l.length cap) ∧ ∀ ρ, (Blk.row tg l true).holds elT ρ W v F := by
  obtain ⟨a, len, cap, rfl⟩ := okWide_slice ht hval
  obtain ⟨fuel, hf⟩ := hd
  rcases Deep.open_slice ht hf with ⟨h, _⟩ | ⟨ad, len', cap', m, n, D, Pl, h, _, hl, hm, hmm, _, hx⟩
  · simp [Value.cells] at h
    obtain ⟨rfl, rfl, rfl⟩ := h
    exact ⟨[], [], by simp, by simp, Nat.zero_le _, ⟨none, 0, rfl⟩, fun ρ => ⟨none, 0, rfl, Nat.le_refl _, Nat.zero_le _, fun _ => rfl, fun j x hj => by simp [flat] at hj⟩⟩
  · simp [Value.cells] at h
    obtain ⟨rfl, rfl, rfl⟩ := h
    have hlm : len ≤ m := by rw [hmm]; split <;> omega
    have key : ∀ i, i < len → ∃ e : El tg, W.cells? 0 (ad.add (i * elM tg)) (elM tg) = some (elEnc tg e) ∧ elWf tg e := by
      intro i hi
      obtain ⟨cs', h1, h2⟩ := hx i (by omega)
      rw [ok.cells] at h1
      obtain ⟨e, he, hw⟩ := ok.reads enc W 0 sp held n cs' _ h2
      exact ⟨e, by rw [h1, he], hw⟩
    haveI : Inhabited (El tg) := ⟨elD tg⟩
    obtain ⟨E, hE⟩ := Deep.choose_lt key
    refine ⟨(List.range len).map E, if ad.block < W.heap.size then [ad.block] else [], ?_, ?_, by simp; omega, ⟨some ad, cap, by simp⟩, fun ρ => ⟨some ad, cap, by simp, by simpa using hl, hm, (fun h => by cases h), fun j x hj => ?_⟩⟩
    · intro n hn
      split at hn
      · rename_i hb; simp at hn; omega
      · simp at hn
    · intro e he
      obtain ⟨i, hi, rfl⟩ := List.mem_map.1 he
      exact (hE i (by simpa using hi)).2
    · have hjl : j < len * elM tg := by
        have := (List.getElem?_eq_some_iff.1 hj).1
        rw [flat_len] at this; simpa using this
      have hM : 0 < elM tg := by
        rcases Nat.eq_zero_or_pos (elM tg) with h | h
        · rw [h] at hjl; simp at hjl
        · exact h
      have hk : j / elM tg < len := (Nat.div_lt_iff_lt_mul hM).2 hjl
      have hr : j % elM tg < elM tg := Nat.mod_lt _ hM
      have hje : j = j / elM tg * elM tg + j % elM tg := by rw [Nat.mul_comm]; exact (Nat.div_add_mod _ _).symm
      rw [hje, flat_get tg _ _ (by simpa using hk) _ hr] at hj
      have hg : ((List.range len).map E).getD (j / elM tg) (elD tg) = E (j / elM tg) := by simp [List.getD, hk]
      rw [hg] at hj
      obtain ⟨_, _, hc⟩ := World.cells?_some (hE _ hk).1
      have := hc _ hr
      rw [hj, Deep.add_add, ← hje] at this
      refine ⟨ad, rfl, ?_, this⟩
      have hb : (ad.add j).block = ad.block := block_add ad j
      have hlt : ad.block < W.heap.size := by
        rcases Nat.lt_or_ge ad.block W.heap.size with h | h
        · exact h
        · rw [← hb] at h
          simp [World.cell?, Array.getElem?_eq_none h] at this
      simp [hlt]
def AKOK (P : Program) (elT : ET) : AK → TypeId → Prop
  | .row tg, t => P.underlying t = some (.slice (elT tg)) ∧ ElOK P elT tg
  | .el tg, t => t = elT tg ∧ ElOK P elT tg
def AKsOK (P : Program) (elT : ET) : List AK → List TypeId → Prop
  | [], [] => True
  | k :: ks, t :: ts => AKOK P elT k t ∧ AKsOK P elT ks ts
  | _, _ => False
theorem open_args : ∀ (ks : List AK) (ts : List TypeId) (vs : List Value) (ds : List (DataW H)) (ps : List MemPlace) (r : Reach) (b0 : Nat), AKsOK P elT ks ts →
    (∀ (j : Nat) t v, ts[j]? = some t → vs[j]? = some v → Value.okWide P W r b0 t v) → DataW.TrodAll enc P W 0 sp held ts vs ds ps → ∀ (ρ : List Value) (F : Nat → List Nat) (H0 : Heap), Sat elT ρ F H0 W → (∀ b ∈ H0, b.writable = false) →
    ∃ (ags : List V) (H1 : Heap) (ρ' : List Value) (F' : Nat → List Nat), ArgsOf ks ρ.length ags H1 ∧ denL ρ' ags = some vs ∧ Sat elT ρ' F' (H0 ++ H1) W ∧ (∀ b ∈ H0 ++ H1, b.writable = false) ∧ Le ρ ρ'
  | [], ts, vs, ds, ps, r, b0, hk, _, hd, ρ, F, H0, hs, hw => by
    cases ts with
    | cons t ts => exact hk.elim
    | nil =>
      obtain ⟨rfl, rfl, rfl⟩ := trodAll_nil hd
      exact ⟨[], [], ρ, F, ⟨rfl, rfl⟩, rfl, by simpa using hs, by simpa using hw, Le.refl ρ⟩
  | k :: ks, ts, vs, ds, ps, r, b0, hk, hval, hd, ρ, F, H0, hs, hw => by
    cases ts with
    | nil => exact hk.elim
    | cons t ts =>
      obtain ⟨hk1, hk2⟩ := hk
      obtain ⟨v, vs', d, ds', p, q, rfl, rfl, rfl, h1, h2⟩ := trodAll_cons hd
      have hv := hval 0 t v rfl rfl
      have hval' : ∀ (j : Nat) t v, ts[j]? = some t → vs'[j]? = some v → Value.okWide P W r b0 t v := fun j t v a b => hval (j + 1) t v (by simpa using a) (by simpa using b)
      cases k with
      | row tg =>
        obtain ⟨ht, ok⟩ := hk1
        obtain ⟨l, G, hG, hwf, hml, ⟨a, cap, hv2⟩, hh⟩ := open_row ok ht hv h1
        have hlen := hs.len
        have hs1 : Sat elT (ρ ++ [v]) (fset F H0.length G) (H0 ++ [.row tg l true]) W := by
          refine ⟨by simp [hlen], ?_, ?_, ?_⟩
          · intro i b x hb hx
            rcases push_get hb with ⟨hi, hb⟩ | ⟨rfl, rfl⟩
            · have hx' : ρ[i]? = some x := by rw [List.getElem?_append_left (by omega)] at hx; exact hx
              have e : fset F H0.length G i = F i := by unfold fset; rw [if_neg (by omega)]
              rw [e]
              exact Blk.holds_le (by intro i x h; exact List.getElem?_append_left (List.getElem?_eq_some_iff.1 h).1 ▸ h) (fun _ _ => rfl) b (hs.each i b x hb hx')
            · have hx' : x = v := by
                rw [List.getElem?_append_right (by omega)] at hx
                rw [show H0.length - ρ.length = 0 by omega] at hx
                simpa using hx.symm
              subst hx'
              have e : fset F H0.length G H0.length = G := by simp [fset]
              rw [e]
              exact hh _
          · intro i b hb n hn
            rcases push_get hb with ⟨hi, hb⟩ | ⟨rfl, rfl⟩
            · have e : fset F H0.length G i = F i := by unfold fset; rw [if_neg (by omega)]
              rw [e] at hn
              exact hs.lt i b hb n hn
            · have e : fset F H0.length G H0.length = G := by simp [fset]
              rw [e] at hn
              exact hG n hn
          · intro i j bi bj hbi hbj hij hwi
            exfalso
            have hm := List.mem_of_getElem? hbi
            rcases List.mem_append.1 hm with hm | hm
            · rw [hw bi hm] at hwi; cases hwi
            · simp at hm; subst hm; cases hwi
        have hw1 : ∀ b ∈ H0 ++ [Blk.row tg l true], b.writable = false := by
          intro b hb
          rcases List.mem_append.1 hb with hb | hb
          · exact hw b hb
          · simp at hb; subst hb; rfl
        obtain ⟨ags, H1, ρ', F', g1, g2, g3, g4, g5⟩ := open_args ks ts vs' ds' q r b0 hk2 hval' h2 _ _ _ hs1 hw1
        have hρ : ρ'[ρ.length]? = some v := g5 _ _ (by simp)
        refine ⟨.row ρ.length :: ags, .row tg l true :: H1, ρ', F', ⟨l, ags, H1, rfl, rfl, hwf, hml, by simpa using g1⟩, ?_, by simpa using g3, by simpa using g4, ?_⟩
        · have e : (V.row ρ.length).den ρ' = some v := by subst hv2; simp only [V.den, hρ]
          simp only [denL, e, g2]
        · intro i x hx
          exact g5 i x (by rw [List.getElem?_append_left (List.getElem?_eq_some_iff.1 hx).1]; exact hx)
      | el tg =>
        obtain ⟨rfl, ok⟩ := hk1
        obtain ⟨fuel, hf⟩ := h1
        obtain ⟨e, he, hwf⟩ := ok.reads enc W 0 sp held fuel _ _ hf
        obtain ⟨ags, H1, ρ', F', g1, g2, g3, g4, g5⟩ := open_args ks ts vs' ds' q r b0 hk2 hval' h2 ρ F H0 hs hw
        refine ⟨elV tg e :: ags, H1, ρ', F', ⟨e, ags, rfl, hwf, g1⟩, ?_, g3, g4, g5⟩
        simp only [denL, ok.value W r b0 v e hv he ρ', g2]
theorem trodAll_stays (hl : laidOutB P = true) {W' : World} {sp' : Nat → Bool} : ∀ {ts : List TypeId} {vs : List Value} {ds : List (DataW H)} {ps : List MemPlace}, ts.all (fun t => P.readableRec t && decide (t < P.types.size)) = true →
    DataW.TrodAll enc P W 0 (fun _ => true) true ts vs ds ps → (∀ x ∈ ps, W.sameAt W' x) → (∀ x ∈ ps, sp' x.block = true) → DataW.TrodAll enc P W' 0 sp' true ts vs ds ps
  | [], vs, ds, ps, _, h, _, _ => by
    obtain ⟨rfl, rfl, rfl⟩ := trodAll_nil h
    rfl
  | t :: ts, vs, ds, ps, hr, h, h1, h2 => by
    obtain ⟨v, vs', d, ds', p, q, rfl, rfl, rfl, g1, g2⟩ := trodAll_cons h
    simp only [List.all_cons, Bool.and_eq_true, decide_eq_true_eq] at hr
    exact ⟨p, q, WideElems.Trod_stays hl hr.1.1 hr.1.2 g1 (fun x hx => h1 x (by simp [hx])) (fun x hx => h2 x (by simp [hx])),
      trodAll_stays hl hr.2 g2 (fun x hx => h1 x (by simp [hx])) (fun x hx => h2 x (by simp [hx])), rfl⟩
theorem post_law {f : Func} {s : ChangeSpec} {apart fresh handsOn : Bool} {tb : TypeId} (hl : laidOutB P = true) (htb : P.underlying tb = some .bool) (hres : f.resultTypes = #[tb]) (hall : f.params.toList.all (fun t => P.readableRec t && decide (t < P.types.size)) = true)
    (hsv : s.vars = []) (hsp : ∀ ds : List (DataW H), ds.length = f.params.toList.length → s.fn H ds = { results := [.lit (.bool true)], args := ds })
    {W W' : World} {args : Array Value} {ds gs : List (DataW H)} {before : List MemPlace} (hW : DataW.Whole enc P f.params.toList s.vars apart W args.toList ds gs before) (hb : Below W.heap.size W W') :
    s.post enc P f apart fresh handsOn false W args (.bool true) W' := by
  have hlt : ∀ p ∈ before, p.block < W.heap.size := fun p hp => hW.lt p hp
  have hW' := hW
  obtain ⟨p, q, hA, hV, rfl, hfz, hnd⟩ := hW
  rw [hsv] at hV
  obtain ⟨rfl, rfl⟩ := trodVars_none hV
  have hlen : ∀ (ts : List TypeId) (vs : List Value) (ds : List (DataW H)) (ps : List MemPlace), DataW.TrodAll enc P W 0 (fun _ => true) true ts vs ds ps → ds.length = ts.length := by
    intro ts
    induction ts with
    | nil => intro vs ds ps h; obtain ⟨rfl, rfl, rfl⟩ := trodAll_nil h; rfl
    | cons t ts ih =>
      intro vs ds ps h
      obtain ⟨v, vs', d, ds', p, q, rfl, rfl, rfl, g1, g2⟩ := trodAll_cons h
      simp [ih _ _ _ g2]
  have hfn : s.fn H (ds ++ []) = { results := [.lit (.bool true)], args := ds } := by rw [List.append_nil]; exact hsp ds (hlen _ _ _ _ hA)
  refine ⟨ds, [], p ++ [], [], p, [], hW', ?_, ?_, ?_, hb.frame _, fun h => by cases h⟩
  · rw [hfn, hres]
    exact trodAll_mk1 (shut_bool htb true)
  · rw [hfn]
    exact trodAll_stays hl hall hA (fun x hx => hb.same (hlt x (by simpa using hx))) (fun x hx => by simpa using hlt x (by simpa using hx))
  · rw [hfn, hsv]
    rfl
theorem yg1 {f : Func} {s : ChangeSpec} {apart fresh handsOn : Bool} {tb : TypeId} {g : FuncId} {ks : List AK} (hspec : SpecOK P elT g (lawS ks)) (hk : AKsOK P elT ks f.params.toList)
    (hl : laidOutB P = true) (htb : P.underlying tb = some .bool) (hres : f.resultTypes = #[tb]) (hall : f.params.toList.all (fun t => P.readableRec t && decide (t < P.types.size)) = true)
    (hsv : s.vars = []) (hsp : ∀ ds : List (DataW H), ds.length = f.params.toList.length → s.fn H ds = { results := [.lit (.bool true)], args := ds })
    {W : World} {r : Reach} {base : Nat} {args : Array Value} {ds gs : List (DataW H)} {before : List MemPlace} (hval : ∀ (j : Nat) t v, f.params[j]? = some t → args[j]? = some v → Value.okWide P W r base t v)
    (hW : DataW.Whole enc P f.params.toList s.vars apart W args.toList ds gs before) :
    Calls P g args W fun e W' => ∃ v, e = .returned v ∧ s.post enc P f apart fresh handsOn false W args v W' := by
  have hW' := hW
  obtain ⟨p, q, hA, _⟩ := hW
  have h0 : Sat elT [] (fun _ => []) [] W := ⟨rfl, fun i b x hb => by simp at hb, fun i b hb => by simp at hb, fun i j bi bj hb => by simp at hb⟩
  obtain ⟨ags, H1, ρ, F, g1, g2, g3, g4, _⟩ := open_args ks f.params.toList args.toList ds p r base hk (fun j t v a b => hval j t v (by simpa using a) (by simpa using b)) hA [] (fun _ => []) [] h0 (by simp)
  have hc := hspec.2 ags H1 (fun v _ => v = vb true) ⟨g1, fun _ => rfl⟩ ρ F W args.toList g2 (by simpa using g3)
  rw [Array.toArray_toList] at hc
  refine hc.mono fun e W' h => ?_
  obtain ⟨v, x, ρ', F', H', rfl, rfl, hr, _, _, hfr⟩ := h
  have hx : x = .bool true := den_ext hr
  subst hx
  have hnw : ∀ (i : Nat) (b : Blk), H1[i]? = some b → b.writable = true → False := fun i b hb hw => by
    have := g4 b (by simpa using List.mem_of_getElem? hb)
    rw [this] at hw; cases hw
  have hb : Below W.heap.size W W' := ⟨hfr.os, hfr.tape, hfr.output, hfr.size, fun n hn => hfr.block n hn (fun i b hb hw => (hnw i b hb hw).elim)⟩
  exact ⟨_, rfl, post_law hl htb hres hall hsv hsp hW' hb⟩
end
def flatFs (P : Program) (rec : TypeId → Option (List Bool)) : List Field → Nat → Option (List Bool)
  | [], _ => some []
  | f :: fs, o => match rec f.type with
    | none => none
    | some a => bif Nat.beq f.offset o && Nat.beq (P.cellsOf f.type) a.length then match flatFs P rec fs (o + a.length) with
      | some b => some (a ++ b)
      | none => none
      else none
def flatK (P : Program) : Nat → TypeId → Option (List Bool)
  | 0, _ => none
  | n + 1, t => match P.underlying t with
    | some .bool => some [false]
    | some (.int .i64) => some [true]
    | some (.struct fs) => match flatFs P (flatK P n) fs.toList 0 with
      | some ks => bif Nat.beq (P.cellsOf t) ks.length then some ks else none
      | none => none
    | _ => none
def goodCell (b : Bool) (v : Option Value) : Prop := match b with
  | true => ∃ n, v = some (.int .i64 n) ∧ (Lit.int .i64 n).wf = true
  | false => ∃ c, v = some (.bool c)
section
variable {P : Program} {elT : ET} {H : Type} {enc : TypeId × Value → H} {W : World} {sp : Nat → Bool} {held : Bool}
theorem flatFs_good {rec : TypeId → Option (List Bool)} {base : Nat} {cs : List Value} (hrec : ∀ t ks fuel cs (x : DataW H × List MemPlace), rec t = some ks → DataW.trod enc P W base sp held fuel t cs = some x → cs.length = ks.length ∧ ∀ (i : Nat) (b : Bool), ks[i]? = some b → goodCell b cs[i]?) {n : Nat} :
    ∀ (fl : List Field) (o : Nat) (ks : List Bool), (∀ f ∈ fl, ∃ y, DataW.trod enc P W base sp held n f.type ((cs.drop f.offset).take (P.cellsOf f.type)) = some y) → flatFs P rec fl o = some ks → ∀ (i : Nat) (b : Bool), ks[i]? = some b → goodCell b cs[o + i]?
  | [], o, ks, _, h, i, b, hb => by simp only [flatFs, Option.some.injEq] at h; subst h; simp at hb
  | f :: fl, o, ks, hall, h, i, b, hb => by
    simp only [flatFs] at h
    split at h
    · cases h
    · rename_i a ha
      cases hc : (Nat.beq f.offset o && Nat.beq (P.cellsOf f.type) a.length) with
      | false => rw [hc] at h; cases h
      | true =>
        rw [hc] at h
        simp only [cond_true] at h
        simp only [Bool.and_eq_true] at hc
        have e1 := Nat.eq_of_beq_eq_true hc.1
        have e2 := Nat.eq_of_beq_eq_true hc.2
        split at h
        · rename_i b' hb'
          injection h with h
          subst h
          rcases Nat.lt_or_ge i a.length with hi | hi
          · rw [List.getElem?_append_left hi] at hb
            obtain ⟨y, hy⟩ := hall f (by simp)
            have hg := (hrec f.type a n _ y ha hy).2 i b hb
            rw [e1, e2, List.getElem?_take, if_pos hi, List.getElem?_drop] at hg
            exact hg
          · rw [List.getElem?_append_right hi] at hb
            have := flatFs_good hrec fl (o + a.length) b' (fun f hf => hall f (by simp [hf])) hb' (i - a.length) b hb
            rw [show o + a.length + (i - a.length) = o + i by omega] at this
            exact this
        · cases h
theorem flatK_good {base : Nat} : ∀ (n : Nat) (t : TypeId) (ks : List Bool) (fuel : Nat) (cs : List Value) (x : DataW H × List MemPlace), flatK P n t = some ks → DataW.trod enc P W base sp held fuel t cs = some x →
    cs.length = ks.length ∧ ∀ (i : Nat) (b : Bool), ks[i]? = some b → goodCell b cs[i]?
  | 0, t, ks, fuel, cs, x, h, _ => by cases h
  | n + 1, t, ks, fuel, cs, x, h, hx => by
    simp only [flatK] at h
    split at h
    · rename_i ht
      injection h with h; subst h
      obtain ⟨b, rfl, _⟩ := DataW.trod_bool ht hx
      refine ⟨rfl, fun i b' hb => ?_⟩
      cases i with
      | zero => simp at hb; subst hb; exact ⟨b, rfl⟩
      | succ i => simp at hb
    · rename_i ht
      injection h with h; subst h
      obtain ⟨m, rfl, _, hw⟩ := DataW.trod_int ht hx
      refine ⟨rfl, fun i b' hb => ?_⟩
      cases i with
      | zero => simp at hb; subst hb; exact ⟨m, rfl, hw⟩
      | succ i => simp at hb
    · rename_i fs ht
      split at h
      · rename_i ks' hks
        cases hc : Nat.beq (P.cellsOf t) ks'.length with
        | false => rw [hc] at h; cases h
        | true =>
          rw [hc] at h
          injection h with h; subst h
          obtain ⟨xs, m, _, _, hlen, hxs, hall⟩ := DataW.trod_struct ht hx
          refine ⟨by rw [hlen, Nat.eq_of_beq_eq_true hc], fun i b hb => ?_⟩
          have := flatFs_good (enc := enc) (W := W) (sp := sp) (held := held) (base := base) (cs := cs) (n := m) (fun t ks fuel cs x a b => flatK_good n t ks fuel cs x a b) fs.toList 0 ks' (fun f hf => by
            obtain ⟨k, hk⟩ := List.getElem?_of_mem hf
            rw [Array.getElem?_toList] at hk
            have h1 := hall k f hk
            have hi : k < fs.size := (Array.getElem?_eq_some_iff.1 hk).1
            rw [List.getElem?_eq_getElem (by omega)] at h1
            exact ⟨_, h1⟩) hks i b hb
          rwa [Nat.zero_add] at this
      · cases h
    · cases h
theorem struct_value {tg : Nat} {e : El tg} {fs : Array Field} {W : World} {r : Reach} {b : Nat} {v : Value} (ht : P.underlying (elT tg) = some (.struct fs)) (hv : Value.okWide P W r b (elT tg) v) (hcs : v.cells.toList = elEnc tg e) (ρ : List Value) :
    (V.agg ((elEnc tg e).map .ext)).den ρ = some v := by
  obtain ⟨cs, rfl, _⟩ := okWide_struct ht hv
  simp only [Value.cells] at hcs
  simp only [V.den, denL_ext]
  rw [← hcs]
end
end Go.Rx
end

section
namespace Go.Rx
open Go.ChangeShapes Go.WideShapes
theorem elOK_ev {P : Program} {elT : ET} {fs : Array Field} (ht : P.underlying (elT 3) = some (.struct fs)) (hc : P.cellsOf (elT 3) = 23)
    (hf : flatK P 6 (elT 3) = some (List.replicate 20 true ++ [false, false, false])) : ElOK P elT 3 := by
  refine ⟨hc, fun enc W base sp held fuel cs x h => ?_, fun W r b v e hv hcs ρ => struct_value ht hv hcs ρ⟩
  obtain ⟨hlen, hg⟩ := flatK_good 6 (elT 3) _ fuel cs x hf h
  have hlen : cs.length = 23 := hlen
  have hI : ∀ i, i < 20 → ∃ n, cs[i]? = some (.int .i64 n) ∧ (Lit.int .i64 n).wf = true := fun i hi => hg i true (by
    rw [List.getElem?_append_left (by simpa using hi), List.getElem?_replicate, if_pos hi])
  obtain ⟨b0, hb0⟩ := hg 20 false rfl
  obtain ⟨b1, hb1⟩ := hg 21 false rfl
  obtain ⟨b2, hb2⟩ := hg 22 false rfl
  obtain ⟨N, hN⟩ := Deep.choose_lt (n := 20) hI
  have hcs : cs = encEv ⟨N 0, N 1, N 2, N 3, N 4, N 5, N 6, N 7, N 8, N 9, N 10, N 11, N 12, N 13, N 14, N 15, N 16, N 17, N 18, N 19, b0, b1, b2⟩ := by
    apply List.ext_getElem?
    intro i
    have hE : (encEv ⟨N 0, N 1, N 2, N 3, N 4, N 5, N 6, N 7, N 8, N 9, N 10, N 11, N 12, N 13, N 14, N 15, N 16, N 17, N 18, N 19, b0, b1, b2⟩) = (List.range 20).map (fun i => i64 (N i)) ++ [.bool b0, .bool b1, .bool b2] := rfl
    rw [hE]
    rcases Nat.lt_or_ge i 20 with hi | hi
    · rw [List.getElem?_append_left (by simp; omega), List.getElem?_map, List.getElem?_range hi, (hN i hi).1]
      rfl
    · rcases Nat.lt_or_ge i 23 with h2 | h2
      · have : i = 20 ∨ i = 21 ∨ i = 22 := by omega
        rcases this with rfl | rfl | rfl
        · rw [hb0]; rfl
        · rw [hb1]; rfl
        · rw [hb2]; rfl
      · rw [List.getElem?_eq_none (by omega), List.getElem?_eq_none (by simp; omega)]
  refine ⟨_, hcs, fun k m hm => ?_⟩
  have hm' : Value.int k m ∈ cs := by rw [hcs]; exact hm
  obtain ⟨i, hi⟩ := List.getElem?_of_mem hm'
  have hi23 : i < 23 := by rw [← hlen]; exact (List.getElem?_eq_some_iff.1 hi).1
  rcases Nat.lt_or_ge i 20 with h20 | h20
  · obtain ⟨h1, h2⟩ := hN i h20
    rw [h1] at hi
    injection hi with hi
    injection hi with e1 e2
    subst e1; subst e2
    exact h2
  · have : i = 20 ∨ i = 21 ∨ i = 22 := by omega
    rcases this with rfl | rfl | rfl
    · rw [hb0] at hi; cases hi
    · rw [hb1] at hi; cases hi
    · rw [hb2] at hi; cases hi
end Go.Rx
end

section
namespace Go.Rx
open Go.Proofs
namespace E25
set_option maxRecDepth 100000
def evOf : V → Option Ev
  | .agg cs => match extsV cs with
    | some vs => decEv vs
    | none => none
  | _ => none
theorem extsV_map : ∀ {cs : List V} {vs : List Value}, extsV cs = some vs → cs = vs.map .ext
  | [], vs, h => by simp only [extsV, Option.some.injEq] at h; subst h; rfl
  | v :: r, vs, h => by
    simp only [extsV] at h
    cases v with
    | ext x =>
      simp only [extV] at h
      cases hr : extsV r with
      | none => simp [hr] at h
      | some ys => simp only [hr, Option.some.injEq] at h; subst h; rw [extsV_map hr]; rfl
    | _ => simp [extV] at h
theorem evOf_spec {v : V} {e : Ev} (h : evOf v = some e) : v = evV e := by
  unfold evOf at h
  split at h
  · rename_i cs
    split at h
    · rename_i vs hvs
      rw [extsV_map hvs, ← elDec_enc 3 vs e h]
      rfl
    · cases h
  · cases h
def aheadM (a b : Ev) : Bool := a.Done && decide (a.End < b.Begin)
def ev2S (f : Ev → Ev → Bool) : Spec where
  tr := fun args H K => match args, H with
    | [a, b], [] => match evOf a, evOf b with
      | some a, some b => K (vb (f a b)) []
      | _, _ => False
    | _, _ => False
theorem ev2S_elim {f : Ev → Ev → Bool} {args : List V} {H : Heap} {K : V → Heap → Prop} (h : (ev2S f).tr args H K) : ∃ a b, args = [evV a, evV b] ∧ H = [] ∧ K (vb (f a b)) [] := by
  unfold ev2S at h
  simp only at h
  split at h
  · split at h
    · rename_i a b ha hb
      exact ⟨a, b, by rw [evOf_spec ha, evOf_spec hb], rfl, h⟩
    · exact h.elim
  · exact h.elim
theorem br_true {b : Bool} {A B : Prop} (hb : b = true) (h : A) : br b A B := by subst hb; exact h
theorem br_false {b : Bool} {A B : Prop} (hb : b = false) (h : B) : br b A B := by subst hb; exact h
theorem br_intro {b : Bool} {A B : Prop} (h1 : b = true → A) (h2 : b = false → B) : br b A B := by
  cases b with
  | true => exact h1 rfl
  | false => exact h2 rfl
def oneM (w : Int) (e : Ev) : Bool :=
  bif decide (e.Begin < 0) then false else bif decide (e.Worker < 0) then false else bif decide (e.Worker ≥ w) then false else
  bif e.Done then (bif e.Sure then decide (e.Begin < e.End) else false) else e.End == 0
def okAt (w : Int) (l : List Ev) (i : Nat) : Bool :=
  oneM w (l.getD i dEv) && ((i == 0 || decide ((l.getD (i - 1) dEv).Begin < (l.getD i dEv).Begin)) &&
    (List.range i).all fun k => !((l.getD k dEv).Worker == (l.getD i dEv).Worker) || aheadM (l.getD k dEv) (l.getD i dEv))
def rightB (w : Int) (l : List Ev) : Bool := (List.range l.length).all (okAt w l)
def wevS (f : Int → Ev → Bool) : Spec where
  tr := fun args H K => match args, H with
    | [.ext (.int .i64 w), a], [] => match evOf a with
      | some a => K (vb (f w a)) []
      | none => False
    | _, _ => False
theorem wevS_elim {f : Int → Ev → Bool} {args : List V} {H : Heap} {K : V → Heap → Prop} (h : (wevS f).tr args H K) : ∃ w a, args = [vi w, evV a] ∧ H = [] ∧ K (vb (f w a)) [] := by
  unfold wevS at h
  simp only at h
  split at h
  · split at h
    · rename_i a ha
      exact ⟨_, a, by rw [evOf_spec ha]; rfl, rfl, h⟩
    · exact h.elim
  · exact h.elim
def rowBS (f : Int → List Ev → Bool) : Spec where
  tr := fun args H K => match args, H with
    | [.ext (.int .i64 t), .row 0], [.row 3 l true] => List.length l ≤ 1048576 ∧ K (vb (f t l)) [.row 3 l true]
    | _, _ => False
theorem rowBS_elim {f : Int → List Ev → Bool} {args : List V} {H : Heap} {K : V → Heap → Prop} (h : (rowBS f).tr args H K) :
    ∃ (t : Int) (l : List Ev), args = [vi t, .row 0] ∧ H = [.row 3 l true] ∧ l.length ≤ 1048576 ∧ K (vb (f t l)) [.row 3 l true] := by
  unfold rowBS at h
  simp only at h
  split at h
  · exact ⟨_, _, rfl, rfl, h⟩
  · exact h.elim
theorem oneM_facts {w : Int} {e : Ev} (h : oneM w e = true) : 0 ≤ e.Begin ∧ 0 ≤ e.Worker ∧ e.Worker < w ∧ (e.Done = true → e.Begin < e.End) := by
  unfold oneM at h
  simp only [Bool.cond_eq_ite] at h
  split at h
  · cases h
  · split at h
    · cases h
    · split at h
      · cases h
      · rename_i h1 h2 h3
        simp only [decide_eq_true_eq] at h1 h2 h3
        refine ⟨by omega, by omega, by omega, fun hd => ?_⟩
        rw [if_pos hd] at h
        split at h
        · simpa using h
        · cases h
theorem ahead_iff {a b : Ev} : aheadM a b = true ↔ a.Done = true ∧ a.End < b.Begin := by simp [aheadM]
theorem ahead_trans {w : Int} {a b c : Ev} (hb : oneM w b = true) (h1 : aheadM a b = true) (h2 : aheadM b c = true) : aheadM a c = true := by
  obtain ⟨a1, a2⟩ := ahead_iff.1 h1
  obtain ⟨b1, b2⟩ := ahead_iff.1 h2
  have := (oneM_facts hb).2.2.2 b1
  exact ahead_iff.2 ⟨a1, by omega⟩
theorem okAt_iff {w : Int} {l : List Ev} {i : Nat} : okAt w l i = true ↔ oneM w (l.getD i dEv) = true ∧ (i = 0 ∨ (l.getD (i - 1) dEv).Begin < (l.getD i dEv).Begin) ∧
    ∀ k, k < i → (l.getD k dEv).Worker = (l.getD i dEv).Worker → aheadM (l.getD k dEv) (l.getD i dEv) = true := by
  unfold okAt
  rw [Bool.and_eq_true, Bool.and_eq_true, Bool.or_eq_true, List.all_eq_true]
  refine and_congr Iff.rfl (and_congr ?_ ?_)
  · simp
  · constructor
    · intro h k hk hw
      have := h k (by simpa using hk)
      rw [hw] at this
      simpa using this
    · intro h k hk
      have := h k (by simpa using hk)
      by_cases hw : (l.getD k dEv).Worker = (l.getD i dEv).Worker
      · rw [this hw]; simp
      · simp only [Bool.or_eq_true, Bool.not_eq_true']
        exact .inl (by simpa using hw)
theorem rightB_iff {w : Int} {l : List Ev} : rightB w l = true ↔ ∀ i, i < l.length → okAt w l i = true := by
  unfold rightB
  rw [List.all_eq_true]
  exact ⟨fun h i hi => h i (by simpa using hi), fun h i hi => h i (by simpa using hi)⟩
theorem rightB_false {w : Int} {l : List Ev} {i : Nat} (hi : i < l.length) (h : ¬ okAt w l i = true) : rightB w l = false := by
  cases hr : rightB w l with
  | false => rfl
  | true => exact absurd (rightB_iff.1 hr i hi) h
def lastOK (l : List Ev) (i : Nat) (m : Int → Option Int) : Prop :=
  ∀ a, (∀ y, m a = some y → ∃ k : Nat, y = (k : Int) + 1 ∧ k < i ∧ (l.getD k dEv).Worker = a ∧ ∀ j, k < j → j < i → (l.getD j dEv).Worker ≠ a) ∧ (m a = none → ∀ j, j < i → (l.getD j dEv).Worker ≠ a)
theorem lastOK_zero (l : List Ev) : lastOK l 0 (fun _ => none) := fun a => ⟨fun y h => by (cases h), fun _ j hj => by omega⟩
theorem lastOK_succ {l : List Ev} {i : Nat} {m : Int → Option Int} (h : lastOK l i m) : lastOK l (i + 1) (mapSet m (l.getD i dEv).Worker ((i : Int) + 1)) := by
  intro a
  obtain ⟨h1, h2⟩ := h a
  refine ⟨fun y hy => ?_, fun hn j hj => ?_⟩
  · unfold mapSet at hy
    split at hy
    · rename_i e
      injection hy with hy
      exact ⟨i, hy.symm, by omega, e.symm, fun j h1 h2 => by omega⟩
    · rename_i e
      obtain ⟨k, e1, e2, e3, e4⟩ := h1 y hy
      refine ⟨k, e1, by omega, e3, fun j hj1 hj2 => ?_⟩
      by_cases hji : j = i
      · subst hji; exact fun h => e h.symm
      · exact e4 j hj1 (by omega)
  · unfold mapSet at hn
    split at hn
    · cases hn
    · rename_i e
      by_cases hji : j = i
      · subst hji; exact fun h => e h.symm
      · exact h2 hn j (by omega)
theorem okAt_of {w : Int} {l : List Ev} {i : Nat} {m : Int → Option Int} (h : lastOK l i m) (hall : ∀ j, j < i → okAt w l j = true) (h1 : oneM w (l.getD i dEv) = true)
    (h2 : i = 0 ∨ (l.getD (i - 1) dEv).Begin < (l.getD i dEv).Begin) (h3 : ∀ k : Nat, m (l.getD i dEv).Worker = some ((k : Int) + 1) → aheadM (l.getD k dEv) (l.getD i dEv) = true) : okAt w l i = true := by
  refine okAt_iff.2 ⟨h1, h2, fun k hk hw => ?_⟩
  obtain ⟨g1, g2⟩ := h (l.getD i dEv).Worker
  cases hm : m (l.getD i dEv).Worker with
  | none => exact absurd hw (g2 hm k hk)
  | some y =>
    obtain ⟨q, rfl, q1, q2, q3⟩ := g1 y hm
    have ha := h3 q hm
    rcases Nat.lt_trichotomy k q with hlt | heq | hgt
    · have hq := okAt_iff.1 (hall q q1)
      exact ahead_trans hq.1 (hq.2.2 k hlt (by rw [hw, q2])) ha
    · subst heq; exact ha
    · exact absurd hw (q3 k hgt hk)
def cntL (w : Int) (left : Int → Bool) : Nat := ((List.range w.toNat).filter fun (x : Nat) => left (Int.ofNat x)).length
theorem filter_lt {α : Type} {p q : α → Bool} : ∀ {l : List α}, (∀ x, q x = true → p x = true) → (∃ x ∈ l, p x = true ∧ q x = false) → (l.filter q).length < (l.filter p).length
  | [], _, h => by obtain ⟨x, hx, _⟩ := h; cases hx
  | a :: r, hpq, h => by
    have hle : (r.filter q).length ≤ (r.filter p).length := by
      clear h
      induction r with
      | nil => simp
      | cons b r ih =>
        rw [List.filter_cons, List.filter_cons]
        by_cases hq : q b = true
        · rw [if_pos hq, if_pos (hpq b hq)]; simpa using ih
        · rw [if_neg hq]; split
          · simp; omega
          · exact ih
    obtain ⟨x, hx, h1, h2⟩ := h
    rw [List.filter_cons, List.filter_cons]
    by_cases hxa : x = a
    · subst hxa
      rw [if_neg (by rw [h2]; simp), if_pos h1]
      simp; omega
    · have hxr : x ∈ r := by
        rcases List.mem_cons.1 hx with h | h
        · exact absurd h hxa
        · exact h
      have ih := filter_lt (l := r) hpq ⟨x, hxr, h1, h2⟩
      by_cases hq : q a = true
      · rw [if_pos hq, if_pos (hpq a hq)]; simpa using ih
      · rw [if_neg hq]; split
        · simp; omega
        · exact ih
theorem cntL_drop {w : Int} {left : Int → Bool} {a : Int} (h0 : 0 ≤ a) (h1 : a < w) (hl : left a = true) : cntL w (mapDrop left a) < cntL w left := by
  unfold cntL
  refine filter_lt (fun x hx => ?_) ⟨a.toNat, by simp; omega, ?_, ?_⟩
  · unfold mapDrop at hx
    simp only [Bool.and_eq_true] at hx
    exact hx.1
  · rw [show Int.ofNat a.toNat = a by rw [Int.ofNat_eq_natCast]; omega]; exact hl
  · unfold mapDrop
    rw [show Int.ofNat a.toNat = a by rw [Int.ofNat_eq_natCast]; omega]
    simp
theorem cntL_le (w : Int) (left : Int → Bool) : cntL w left ≤ w.toNat := by
  unfold cntL
  exact Nat.le_trans (List.length_filter_le _ _) (by simp)
theorem nf15 (a b : Ev) (K : V → Heap → Prop) : (exF cfgB Try.f88 [evV a, evV b] [] K) = (
    br (Go.Rx.Ev.Done a)
      (
      K (vb (Decidable.decide (Go.Rx.Ev.End a < Go.Rx.Ev.Begin b))) [])
      (
      K (vb (Bool.false)) [])) := by
  kernel_rfl
theorem nf31 (w : Int) (a : Ev) (K : V → Heap → Prop) : (exF cfgB Try.f87 [vi w, evV a] [] K) = (
    br (Decidable.decide (Go.Rx.Ev.Begin a < 0))
      (
      K (vb (Bool.false)) [])
      (
      br (Decidable.decide (Go.Rx.Ev.Worker a < 0))
        (
        K (vb (Bool.false)) [])
        (
        br (Decidable.decide (Go.Rx.Ev.Worker a ≥ w))
          (
          K (vb (Bool.false)) [])
          (
          br (Go.Rx.Ev.Done a)
            (
            br (Go.Rx.Ev.Sure a)
              (
              K (vb (Decidable.decide (Go.Rx.Ev.Begin a < Go.Rx.Ev.End a))) [])
              (
              K (vb (Bool.false)) []))
            (
            K (vb (Go.Rx.Ev.End a == 0)) []))))) := by
  kernel_rfl
attribute [local irreducible] Loop ex exF contK roundK retK at_ bodyOf mkEnv
theorem ahead_ok : SpecOK Try.prog elTT 88 (ev2S aheadM) := by
  refine spec_of_exF (cfg := cfgB) (yn rfl rfl rfl) (nosig rfl) (fn := Try.f88) (by kernel_rfl) (by kernel_rfl) (by kernel_rfl) ?_
  intro args H K h
  obtain ⟨a, b, rfl, rfl, hk⟩ := ev2S_elim h
  refine Eq.mpr (nf15 a b K) ?_
  revert hk
  unfold aheadM
  cases a.Done <;> exact id
theorem alone_ok : SpecOK Try.prog elTT 87 (wevS oneM) := by
  refine spec_of_exF (cfg := cfgB) (yn rfl rfl rfl) (nosig rfl) (fn := Try.f87) (by kernel_rfl) (by kernel_rfl) (by kernel_rfl) ?_
  intro args H K h
  obtain ⟨w, a, rfl, rfl, hk⟩ := wevS_elim h
  refine Eq.mpr (nf31 w a K) ?_
  revert hk
  unfold oneM
  cases decide (a.Begin < 0) <;> cases decide (a.Worker < 0) <;> cases decide (a.Worker ≥ w) <;> cases a.Done <;> cases a.Sure <;> exact id
end E25
end Go.Rx
end

section
namespace Go.Rx
open Go.Proofs
namespace E25
set_option maxRecDepth 100000
noncomputable def sig12 : FuncId → Option Spec := fun f => match f with
  | 87 => some (wevS oneM)
  | 88 => some (ev2S aheadM)
  | _ => none
noncomputable def cfg12 : Cfg := { cfgB with
  sigs := sig12
  keep := fun r => match r with | 3 => some [(0, none), (1, none), (5, none), (13, none), (14, none), (15, none)] | 14 => some [(0, none), (1, none), (9, none), (62, none)] | _ => none
  keepB := fun b => match b with | 0 => some [(0, none), (1, none), (5, none)] | 2 => some [(0, none), (9, none)] | _ => none
  plan := fun r => match r with | 5 => some (List.range 19, 0) | 8 => some (List.range 12, 0) | _ => none }
theorem nf12 (w : Int) (l : List Ev) (K : V → Heap → Prop) : (exF cfg12 Try.f60 [vi w, .row 0] [.row 3 l true] K) = (
    Loop cfg12 (⟨80, 1⟩ : Cx) (at_ (bodyOf Try.f60) [1, 1, 0, 1, 0, 0])  (mkEnv [(0, vi (w)), (1, .row 0), (5, Go.Rx.V.mp 1), (13, .row 0), (14, vi ((↑(List.length l) : Int))), (15, vi (0))]) [.row 3 (l : List Go.Rx.Ev) Bool.true, Go.Rx.Blk.map (fun x => Option.none) 0] (contK cfg12 (⟨80, 1⟩ : Cx) (bodyOf Try.f60) [1, 1, 0, 1, 0] (retK cfg12 Try.f60 1 K))) := by
  kernel_rfl
theorem nf12r (w : Int) (l : List Ev) (m : Int → Option Int) (n : Nat) (i : Int) (K : V → Heap → Prop) (J : Env → Heap → Prop) : (ex cfg12 (⟨80, 1⟩ : Cx) (at_ (bodyOf Try.f60) [1, 1, 0, 1, 0, 0]) (mkEnv [(0, vi w), (1, .row 0), (5, .mp 1), (13, .row 0), (14, vi (l.length : Int)), (15, vi i)]) [.row 3 l true, .map m n] (roundK cfg12 (⟨80, 1⟩ : Cx) (at_ (bodyOf Try.f60) [1, 1, 0, 1, 0, 0]) (contK cfg12 (⟨80, 1⟩ : Cx) (bodyOf Try.f60) [1, 1, 0, 1, 0] (retK cfg12 Try.f60 1 K)) J)) = (
    br (Decidable.decide (i < (↑(List.length l) : Int)))
      (
      Req (Go.Rx.inR i (List.length l))
        (
        Req (Go.Rx.inR (Go.Rx.offs i 0) (List.length l))
          (
          br (!oneM w (List.getD l (Int.toNat (Go.Rx.offs i 0)) Go.Rx.dEv))
            (
            K (vb (Bool.false)) [.row 3 (l : List Go.Rx.Ev) Bool.true])
            (
            br (Decidable.decide (i > 0))
              (
              Req (Go.Rx.inR (Go.IntKind.wrap Go.IntKind.i64 (i - 1)) (List.length l))
                (
                Req (Go.Rx.inR (Go.Rx.offs (Go.IntKind.wrap Go.IntKind.i64 (i - 1)) 0) (List.length l))
                  (
                  br (Decidable.decide (Go.Rx.Ev.Begin (List.getD l (Int.toNat (Go.Rx.offs (Go.IntKind.wrap Go.IntKind.i64 (i - 1)) 0)) Go.Rx.dEv) ≥ Go.Rx.Ev.Begin (List.getD l (Int.toNat (Go.Rx.offs i 0)) Go.Rx.dEv)))
                    (
                    K (vb (Bool.false)) [.row 3 (l : List Go.Rx.Ev) Bool.true])
                    (
                    br (Decidable.decide (Option.getD (m (Go.Rx.Ev.Worker (List.getD l (Int.toNat (Go.Rx.offs i 0)) Go.Rx.dEv))) 0 > 0))
                      (
                      Req (Go.Rx.inR (Go.IntKind.wrap Go.IntKind.i64 (Option.getD (m (Go.Rx.Ev.Worker (List.getD l (Int.toNat (Go.Rx.offs i 0)) Go.Rx.dEv))) 0 - 1)) (List.length l))
                        (
                        Req (Go.Rx.inR (Go.Rx.offs (Go.IntKind.wrap Go.IntKind.i64 (Option.getD (m (Go.Rx.Ev.Worker (List.getD l (Int.toNat (Go.Rx.offs i 0)) Go.Rx.dEv))) 0 - 1)) 0) (List.length l))
                          (
                          br (!aheadM (List.getD l (Int.toNat (Go.Rx.offs (Go.IntKind.wrap Go.IntKind.i64 (Option.getD (m (Go.Rx.Ev.Worker (List.getD l (Int.toNat (Go.Rx.offs i 0)) Go.Rx.dEv))) 0 - 1)) 0)) Go.Rx.dEv) (List.getD l (Int.toNat (Go.Rx.offs i 0)) Go.Rx.dEv))
                            (
                            K (vb (Bool.false)) [.row 3 (l : List Go.Rx.Ev) Bool.true])
                            (
                            J (mkEnv [(0, vi (w)), (1, .row 0), (5, Go.Rx.V.mp 1), (13, .row 0), (14, vi ((↑(List.length l) : Int))), (15, vi (Go.IntKind.wrap Go.IntKind.i64 (i + 1)))]) [.row 3 (l : List Go.Rx.Ev) Bool.true, Go.Rx.Blk.map (Go.Rx.mapSet m (Go.Rx.Ev.Worker (List.getD l (Int.toNat (Go.Rx.offs i 0)) Go.Rx.dEv)) (Go.IntKind.wrap Go.IntKind.i64 (i + 1))) (n + 1)]))))
                      (
                      J (mkEnv [(0, vi (w)), (1, .row 0), (5, Go.Rx.V.mp 1), (13, .row 0), (14, vi ((↑(List.length l) : Int))), (15, vi (Go.IntKind.wrap Go.IntKind.i64 (i + 1)))]) [.row 3 (l : List Go.Rx.Ev) Bool.true, Go.Rx.Blk.map (Go.Rx.mapSet m (Go.Rx.Ev.Worker (List.getD l (Int.toNat (Go.Rx.offs i 0)) Go.Rx.dEv)) (Go.IntKind.wrap Go.IntKind.i64 (i + 1))) (n + 1)])))))
              (
              br (Decidable.decide (Option.getD (m (Go.Rx.Ev.Worker (List.getD l (Int.toNat (Go.Rx.offs i 0)) Go.Rx.dEv))) 0 > 0))
                (
                Req (Go.Rx.inR (Go.IntKind.wrap Go.IntKind.i64 (Option.getD (m (Go.Rx.Ev.Worker (List.getD l (Int.toNat (Go.Rx.offs i 0)) Go.Rx.dEv))) 0 - 1)) (List.length l))
                  (
                  Req (Go.Rx.inR (Go.Rx.offs (Go.IntKind.wrap Go.IntKind.i64 (Option.getD (m (Go.Rx.Ev.Worker (List.getD l (Int.toNat (Go.Rx.offs i 0)) Go.Rx.dEv))) 0 - 1)) 0) (List.length l))
                    (
                    br (!aheadM (List.getD l (Int.toNat (Go.Rx.offs (Go.IntKind.wrap Go.IntKind.i64 (Option.getD (m (Go.Rx.Ev.Worker (List.getD l (Int.toNat (Go.Rx.offs i 0)) Go.Rx.dEv))) 0 - 1)) 0)) Go.Rx.dEv) (List.getD l (Int.toNat (Go.Rx.offs i 0)) Go.Rx.dEv))
                      (
                      K (vb (Bool.false)) [.row 3 (l : List Go.Rx.Ev) Bool.true])
                      (
                      J (mkEnv [(0, vi (w)), (1, .row 0), (5, Go.Rx.V.mp 1), (13, .row 0), (14, vi ((↑(List.length l) : Int))), (15, vi (Go.IntKind.wrap Go.IntKind.i64 (i + 1)))]) [.row 3 (l : List Go.Rx.Ev) Bool.true, Go.Rx.Blk.map (Go.Rx.mapSet m (Go.Rx.Ev.Worker (List.getD l (Int.toNat (Go.Rx.offs i 0)) Go.Rx.dEv)) (Go.IntKind.wrap Go.IntKind.i64 (i + 1))) (n + 1)]))))
                (
                J (mkEnv [(0, vi (w)), (1, .row 0), (5, Go.Rx.V.mp 1), (13, .row 0), (14, vi ((↑(List.length l) : Int))), (15, vi (Go.IntKind.wrap Go.IntKind.i64 (i + 1)))]) [.row 3 (l : List Go.Rx.Ev) Bool.true, Go.Rx.Blk.map (Go.Rx.mapSet m (Go.Rx.Ev.Worker (List.getD l (Int.toNat (Go.Rx.offs i 0)) Go.Rx.dEv)) (Go.IntKind.wrap Go.IntKind.i64 (i + 1))) (n + 1)]))))))
      (
      Loop cfg12 (⟨80, 1⟩ : Cx) (at_ (bodyOf Try.f60) [1, 1, 1, 1, 0, 1, 0, 0])  (mkEnv [(0, vi (w)), (1, .row 0), (9, vi (0)), (62, .ptr 1 0)]) [.row 3 (l : List Go.Rx.Ev) Bool.true, Go.Rx.Blk.iter m (Go.Rx.mapHas m) n Option.none] (contK cfg12 (⟨80, 1⟩ : Cx) (bodyOf Try.f60) [1, 1, 1, 1, 0, 1, 0] (retK cfg12 Try.f60 1 K)))) := by
  kernel_rfl
theorem nf12s (w : Int) (l : List Ev) (m : Int → Option Int) (left : Int → Bool) (n : Nat) (cur : Option (Int × Int)) (o : Int) (K : V → Heap → Prop) (J : Env → Heap → Prop) : (ex cfg12 (⟨80, 1⟩ : Cx) (at_ (bodyOf Try.f60) [1, 1, 1, 1, 0, 1, 0, 0]) (mkEnv [(0, vi w), (1, .row 0), (9, vi o), (62, .ptr 1 0)]) [.row 3 l true, .iter m left n cur] (roundK cfg12 (⟨80, 1⟩ : Cx) (at_ (bodyOf Try.f60) [1, 1, 1, 1, 0, 1, 0, 0]) (contK cfg12 (⟨80, 1⟩ : Cx) (bodyOf Try.f60) [1, 1, 1, 1, 0, 1, 0] (retK cfg12 Try.f60 1 K)) J)) = (
    ((
      ∀ y0, (
        ∀ y1, (
          ((left y0 = Bool.true) → (
            ((m y0 = Option.some y1) → (
              ((Decidable.decide (0 < n) = Bool.true) → (
                Req (Go.Rx.inR (Go.IntKind.wrap Go.IntKind.i64 (y1 - 1)) (List.length l))
                  (
                  Req (Go.Rx.inR (Go.Rx.offs (Go.IntKind.wrap Go.IntKind.i64 (y1 - 1)) 0) (List.length l))
                    (
                    br (!Go.Rx.Ev.Done (List.getD l (Int.toNat (Go.Rx.offs (Go.IntKind.wrap Go.IntKind.i64 (y1 - 1)) 0)) Go.Rx.dEv))
                      (
                      J (mkEnv [(0, vi (w)), (1, .row 0), (9, vi (Go.IntKind.wrap Go.IntKind.i64 (o + 1))), (62, .ptr 1 0)]) [.row 3 (l : List Go.Rx.Ev) Bool.true, Go.Rx.Blk.iter m (Go.Rx.mapDrop left y0) (n - 1) (Option.some (y0, y1))])
                      (
                      J (mkEnv [(0, vi (w)), (1, .row 0), (9, vi (o)), (62, .ptr 1 0)]) [.row 3 (l : List Go.Rx.Ev) Bool.true, Go.Rx.Blk.iter m (Go.Rx.mapDrop left y0) (n - 1) (Option.some (y0, y1))])))))))))))) ∧ (
      ((∀ (a : Int), left a = Bool.false) → (
        K (vb (Decidable.decide (o ≤ if (0 : Int) > w then (0 : Int) else w))) [.row 3 (l : List Go.Rx.Ev) Bool.true]))))) := by
  kernel_rfl
theorem Req_true {A : Prop} : Req true A = A := rfl
theorem offs_nat (i : Nat) : offs (i : Int) 0 = (i : Int) := rfl
attribute [local irreducible] Loop ex exF contK roundK retK at_ bodyOf mkEnv
theorem sig12_ok : ∀ g s, sig12 g = some s → SpecOK Try.prog elTT g s := by
  intro g s hs
  unfold sig12 at hs
  split at hs
  · injection hs with hs; subst hs; exact alone_ok
  · injection hs with hs; subst hs; exact ahead_ok
  · cases hs
theorem wrap_pred {k : Nat} (h : k ≤ 4611686018427387904) : IntKind.i64.wrap ((k : Int) + 1 - 1) = (k : Int) := by rw [wrap_id (by omega) (by omega)]; omega
theorem wrap_pred' {i : Nat} (h0 : 0 < i) (h : i ≤ 4611686018427387904) : IntKind.i64.wrap ((i : Int) - 1) = ((i - 1 : Nat) : Int) := by rw [wrap_id (by omega) (by omega)]; omega
theorem right_ok : SpecOK Try.prog elTT 60 (rowBS rightB) := by
  refine spec_of_exF (cfg := cfg12) (yn rfl rfl rfl) sig12_ok (fn := Try.f60) (by kernel_rfl) (by kernel_rfl) (by kernel_rfl) ?_
  intro args H K h
  obtain ⟨w, l, rfl, rfl, hl, hk⟩ := rowBS_elim h
  refine Eq.mpr (nf12 w l K) ?_
  refine loop_ind (σ := Nat × (Int → Option Int) × Nat) (fun s => mkEnv [(0, vi w), (1, .row 0), (5, .mp 1), (13, .row 0), (14, vi (l.length : Int)), (15, vi s.1)]) (fun s => [.row 3 l true, .map s.2.1 s.2.2])
    (fun s => s.1 ≤ l.length ∧ (∀ j, j < s.1 → okAt w l j = true) ∧ s.2.2 ≤ s.1 ∧ lastOK l s.1 s.2.1) (fun s => l.length - s.1) ?_ (0, (fun _ => none), 0) ⟨Nat.zero_le _, fun j hj => by omega, Nat.le_refl _, lastOK_zero l⟩
  rintro ⟨i, m, n⟩ ⟨hi, hall, hn, hm⟩ J hJ
  simp only at hi hall hn hm hJ ⊢
  refine Eq.mpr (nf12r w l m n i K J) (br_intro (fun h1 => ?_) (fun h1 => ?_))
  · have h1 : i < l.length := by simpa using h1
    simp only [offs_nat, inR_nat h1, Req_true, Int.toNat_natCast, wrap_succ (show i ≤ 4611686018427387904 by omega)]
    have bad : ¬ okAt w l i = true → K (vb false) [.row 3 l true] := fun h => by rw [rightB_false h1 h] at hk; exact hk
    have good : okAt w l i = true → J (mkEnv [(0, vi w), (1, .row 0), (5, .mp 1), (13, .row 0), (14, vi (l.length : Int)), (15, vi ((i + 1 : Nat) : Int))]) [.row 3 l true, .map (mapSet m (l.getD i dEv).Worker ((i + 1 : Nat) : Int)) (n + 1)] := fun h =>
      hJ (i + 1, mapSet m (l.getD i dEv).Worker ((i + 1 : Nat) : Int), n + 1) ⟨h1, fun j hj => by
        by_cases e : j = i
        · subst e; exact h
        · exact hall j (by omega), by show n + 1 ≤ i + 1; omega, by
            have := lastOK_succ hm
            rw [show ((i : Int) + 1) = ((i + 1 : Nat) : Int) by omega] at this
            exact this⟩ (by omega)
    have tail : oneM w (l.getD i dEv) = true → (i = 0 ∨ (l.getD (i - 1) dEv).Begin < (l.getD i dEv).Begin) →
        br (decide ((m (l.getD i dEv).Worker).getD 0 > 0)) (Req (inR (IntKind.i64.wrap ((m (l.getD i dEv).Worker).getD 0 - 1)) l.length) (Req (inR (offs (IntKind.i64.wrap ((m (l.getD i dEv).Worker).getD 0 - 1)) 0) l.length)
          (br (!aheadM (l.getD (offs (IntKind.i64.wrap ((m (l.getD i dEv).Worker).getD 0 - 1)) 0).toNat dEv) (l.getD i dEv)) (K (vb false) [.row 3 l true])
            (J (mkEnv [(0, vi w), (1, .row 0), (5, .mp 1), (13, .row 0), (14, vi (l.length : Int)), (15, vi ((i + 1 : Nat) : Int))]) [.row 3 l true, .map (mapSet m (l.getD i dEv).Worker ((i + 1 : Nat) : Int)) (n + 1)]))))
          (J (mkEnv [(0, vi w), (1, .row 0), (5, .mp 1), (13, .row 0), (14, vi (l.length : Int)), (15, vi ((i + 1 : Nat) : Int))]) [.row 3 l true, .map (mapSet m (l.getD i dEv).Worker ((i + 1 : Nat) : Int)) (n + 1)]) := by
      intro ho hb
      cases hq : m (l.getD i dEv).Worker with
      | none =>
        refine br_false (by simp) (good (okAt_of hm hall ho hb fun k hk => ?_))
        rw [hq] at hk; cases hk
      | some y =>
        obtain ⟨k, rfl, k1, k2, k3⟩ := (hm _).1 y hq
        simp only [Option.getD_some]
        refine br_true (decide_eq_true (by omega)) ?_
        rw [wrap_pred (by omega)]
        simp only [offs_nat, inR_nat (show k < l.length by omega), Req_true, Int.toNat_natCast]
        refine br_intro (fun ha => bad fun h => ?_) (fun ha => good (okAt_of hm hall ho hb fun k' hk' => ?_))
        · rw [(okAt_iff.1 h).2.2 k k1 k2] at ha
          cases ha
        · rw [hq] at hk'
          have : k' = k := by injection hk' with hk'; omega
          subst this
          simpa using ha
    refine br_intro (fun ho => bad fun h => ?_) (fun ho => br_intro (fun hp => ?_) (fun hp => ?_))
    · have ho : (!oneM w (l.getD i dEv)) = true := ho
      rw [(okAt_iff.1 h).1] at ho
      cases ho
    · have hp : 0 < i := by simpa using hp
      rw [wrap_pred' hp (by omega)]
      simp only [offs_nat, inR_nat (show i - 1 < l.length by omega), Req_true, Int.toNat_natCast]
      refine br_intro (fun hb => bad fun h => ?_) (fun hb => tail (by simpa using ho) (.inr ?_))
      · have hb := of_decide_eq_true hb
        rcases (okAt_iff.1 h).2.1 with e | e
        · omega
        · have hb : (l.getD (i - 1) dEv).Begin ≥ (l.getD i dEv).Begin := hb
          omega
      · have hb := of_decide_eq_false hb
        have hb : ¬ (l.getD (i - 1) dEv).Begin ≥ (l.getD i dEv).Begin := hb
        omega
    · have hp : i = 0 := by have := of_decide_eq_false hp; omega
      exact tail (by simpa using ho) (.inl hp)
  · have h1 : i = l.length := by simp at h1; omega
    subst h1
    have hr : rightB w l = true := rightB_iff.2 hall
    rw [hr] at hk
    refine loop_ind (σ := (Int → Bool) × Nat × Option (Int × Int) × Nat) (fun s => mkEnv [(0, vi w), (1, .row 0), (9, vi s.2.2.2), (62, .ptr 1 0)]) (fun s => [.row 3 l true, .iter m s.1 s.2.1 s.2.2.1])
      (fun s => s.2.2.2 + s.2.1 ≤ l.length ∧ s.2.2.2 + cntL w s.1 ≤ w.toNat) (fun s => s.2.1) ?_ (mapHas m, n, none, 0) ⟨by simpa using hn, by simpa using cntL_le w _⟩
    rintro ⟨left, n', cur, o⟩ ⟨g1, g2⟩ J' hJ'
    simp only at g1 g2 hJ' ⊢
    refine Eq.mpr (nf12s w l m left n' cur o K J') ⟨fun a y hl' ha hpos => ?_, fun hno => ?_⟩
    · have hpos : 0 < n' := of_decide_eq_true hpos
      obtain ⟨k, rfl, k1, k2, k3⟩ := (hm a).1 y ha
      rw [wrap_pred (by omega)]
      simp only [offs_nat, inR_nat k1, Req_true, Int.toNat_natCast]
      obtain ⟨f1, f2, f3, f4⟩ := oneM_facts (okAt_iff.1 (hall k k1)).1
      have hc := cntL_drop (w := w) (left := left) (a := a) (by rw [← k2]; exact f2) (by rw [← k2]; exact f3) hl'
      refine br_intro (fun hd => ?_) (fun hd => ?_)
      · rw [wrap_succ (show o ≤ 4611686018427387904 by omega)]
        exact hJ' (mapDrop left a, n' - 1, some (a, (k : Int) + 1), o + 1) ⟨by show o + 1 + (n' - 1) ≤ l.length; omega, by show o + 1 + cntL w (mapDrop left a) ≤ w.toNat; omega⟩ (by show n' - 1 < n'; omega)
      · exact hJ' (mapDrop left a, n' - 1, some (a, (k : Int) + 1), o) ⟨by show o + (n' - 1) ≤ l.length; omega, by show o + cntL w (mapDrop left a) ≤ w.toNat; omega⟩ (by show n' - 1 < n'; omega)
    · have : decide ((o : Int) ≤ if (0 : Int) > w then (0 : Int) else w) = true := by
        refine decide_eq_true ?_
        split <;> omega
      refine Eq.mp (congrArg (fun b => K (vb b) [.row 3 l true]) this.symm) hk
end E25
abbrev Y16 := Int → (List Ev) → Option (Bool)
def y7w (m_ : Y16) (args : List V) (H : Heap) (K : V → Heap → Prop) : Prop :=
  aC args fun a0 r => aC r fun a1 r => aN r <| aInt a0 fun workers => aRow 0 a1 <| aC H fun b0 r => aN r <| bRow 3 true b0 fun (l2 : List Ev) => So (m_ workers l2) fun x => K (vb (x)) [.row 3 l2 true]
def ybi (m_ : Y16) : Spec := ⟨y7w m_, (true : Bool)⟩
def y23 (w : Int) (l : List Ev) : Option Bool := if l.length ≤ 1048576 then some (E25.rightB w l) else none
theorem yfm : SpecOK Try.prog elTT 60 (ybi y23) := spec_mono (fun args H K h => by
  change y7w y23 args H K at h
  unfold y7w at h
  repeat first | (obtain ⟨_, h⟩ := h) | replace h := Des.el h
  subst_vars
  unfold y23 at h
  split at h
  · rename_i hl
    exact ⟨hl, h⟩
  · exact h.elim) E25.right_ok
end Go.Rx
end
