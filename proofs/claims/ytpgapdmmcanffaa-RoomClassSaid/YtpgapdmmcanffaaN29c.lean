/- Normal forms of the program's code (by a program of this session's; the kernel checks each). -/
import Derived.Test.YtpgapdmmcanffaaC29c
namespace Go.Rx
open Go.Proofs
set_option maxRecDepth 100000
theorem nf50 (xs : List Int) (K : V → Heap → Prop) : (exF (cfgA 50 sig29c noU9) Try.f50 (mkA [0, 0] 0 xs) [] K) = (
    ((
      True) ∧ (
      br (Go.Rx.v81_3 [List.getD xs 0 0, List.getD xs 1 0] != 0)
        (
        K (.tup [vi (0), vi (Go.Rx.v81_3 [List.getD xs 0 0, List.getD xs 1 0])]) [])
        (
        br (Go.Rx.v81_1 [List.getD xs 0 0, List.getD xs 1 0] == 0)
          (
          K (.tup [vi (1), vi (0)]) [])
          (
          K (.tup [vi (Go.IntKind.wrap Go.IntKind.i64 (Go.IntKind.wrap Go.IntKind.i64 (Go.Rx.v81_1 [List.getD xs 0 0, List.getD xs 1 0] + Go.Rx.v81_2 [List.getD xs 0 0, List.getD xs 1 0]) - 1)), vi (0)]) []))))) := by
  kernel_rfl

theorem nf51 (xs : List Int) (K : V → Heap → Prop) : (exF (cfgA 51 sig29c noU9) Try.f51 (mkA [0, 0] 0 xs) [] K) = (
    ((
      True) ∧ (
      br (Go.Rx.v82_3 [List.getD xs 0 0, List.getD xs 1 0] != 0)
        (
        K (.tup [vi (0), vi (Go.Rx.v82_3 [List.getD xs 0 0, List.getD xs 1 0])]) [])
        (
        br (Decidable.decide (Go.Rx.v82_0 [List.getD xs 0 0, List.getD xs 1 0] ≥ 0))
          (
          K (.tup [vi (1), vi (0)]) [])
          (
          K (.tup [vi (Go.IntKind.wrap Go.IntKind.i64 (Go.IntKind.wrap Go.IntKind.i64 (Go.Rx.v82_1 [List.getD xs 0 0, List.getD xs 1 0] + Go.Rx.v82_2 [List.getD xs 0 0, List.getD xs 1 0]) - 1)), vi (0)]) []))))) := by
  kernel_rfl

end Go.Rx
