/- Normal forms of the program's code (by a program of this session's; the kernel checks each). -/
import Derived.Test.YtimebkgadobpoaaC25d
namespace Go.Rx
open Go.Proofs
set_option maxRecDepth 100000
theorem nf19 (t : Int) (l : List Ev) (K : V → Heap → Prop) : (exF cfg19 Try.f19 [.row 0, vi t] [.row 3 l true] K) = (
    ((
      (Nat.le (List.length l) 1048576)) ∧ (
      K (vb ((↑(List.length (Go.Rx.posM (Go.Rx.pendM t) l)) : Int) == 0)) [.row 3 (l : List Go.Rx.Ev) Bool.true]))) := by
  kernel_rfl

end Go.Rx
