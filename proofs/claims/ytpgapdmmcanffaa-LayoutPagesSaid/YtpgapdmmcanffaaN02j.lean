/- Normal forms of the program's code (by a program of this session's; the kernel checks each). -/
import Derived.Test.YtpgapdmmcanffaaC02j
namespace Go.Rx
open Go.Proofs
set_option maxRecDepth 100000
theorem nf43 (xs : List Int) (K : V → Heap → Prop) : (exF cfg43 Try.f43 (mkA [23, 0] 0 xs) [] K) = (
    br (Decidable.decide (List.getD xs 23 0 < 0))
      (
      K (vi (0)) [])
      (
      br (Decidable.decide (List.getD xs 23 0 ≥ List.getD xs 22 0))
        (
        K (vi (0)) [])
        (
        Req (!List.getD xs 3 0 == 0)
          (
          K (vi (Go.IntKind.wrap Go.IntKind.i64 (3 + Int.tmod (List.getD xs 23 0) (List.getD xs 3 0)))) [])))) := by
  kernel_rfl

end Go.Rx
