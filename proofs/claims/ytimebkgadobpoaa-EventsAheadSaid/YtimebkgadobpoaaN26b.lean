/- Normal forms of the program's code (by a program of this session's; the kernel checks each). -/
import Derived.Test.YtimebkgadobpoaaC26b
namespace Go.Rx
open Go.Proofs
set_option maxRecDepth 100000
theorem nf18 (l m : List Int) (K : V → Heap → Prop) : (exF cfg18 Try.f18 [.row 0, .row 1] [.row 0 l true, .row 0 m true] K) = (
    br ((↑(List.length l) : Int) != (↑(List.length m) : Int))
      (
      K (vb (Bool.false)) [.row 0 (l : List Int) Bool.true, .row 0 (m : List Int) Bool.true])
      (
      Loop cfg18 (⟨26, 2⟩ : Cx) (at_ (bodyOf Try.f18) [1, 1, 0, 1, 0, 0])  (mkEnv [(0, .row 0), (1, .row 1), (5, vi (0))]) [.row 0 (l : List Int) Bool.true, .row 0 (m : List Int) Bool.true] (contK cfg18 (⟨26, 2⟩ : Cx) (bodyOf Try.f18) [1, 1, 0, 1, 0] (retK cfg18 Try.f18 2 K)))) := by
  kernel_rfl

theorem nf18r (l m : List Int) (i : Int) (K : V → Heap → Prop) (J : Env → Heap → Prop) : (ex cfg18 (⟨26, 2⟩ : Cx) (at_ (bodyOf Try.f18) [1, 1, 0, 1, 0, 0]) (mkEnv [(0, .row 0), (1, .row 1), (5, vi i)]) [.row 0 l true, .row 0 m true] (roundK cfg18 (⟨26, 2⟩ : Cx) (at_ (bodyOf Try.f18) [1, 1, 0, 1, 0, 0]) (contK cfg18 (⟨26, 2⟩ : Cx) (bodyOf Try.f18) [1, 1, 0, 1, 0] (retK cfg18 Try.f18 2 K)) J)) = (
    br (Decidable.decide (i < (↑(List.length l) : Int)))
      (
      Req (Go.Rx.inR i (List.length l))
        (
        Req (Go.Rx.inR (Go.Rx.offs i 0) (List.length l))
          (
          Req (Go.Rx.inR i (List.length m))
            (
            Req (Go.Rx.inR (Go.Rx.offs i 0) (List.length m))
              (
              br (List.getD l (Int.toNat (Go.Rx.offs i 0)) 0 != List.getD m (Int.toNat (Go.Rx.offs i 0)) 0)
                (
                K (vb (Bool.false)) [.row 0 (l : List Int) Bool.true, .row 0 (m : List Int) Bool.true])
                (
                J (mkEnv [(0, .row 0), (1, .row 1), (5, vi (Go.IntKind.wrap Go.IntKind.i64 (i + 1)))]) [.row 0 (l : List Int) Bool.true, .row 0 (m : List Int) Bool.true]))))))
      (
      K (vb (Bool.true)) [.row 0 (l : List Int) Bool.true, .row 0 (m : List Int) Bool.true])) := by
  kernel_rfl

end Go.Rx
