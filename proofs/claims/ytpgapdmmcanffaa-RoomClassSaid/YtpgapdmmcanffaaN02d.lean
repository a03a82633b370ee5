/- Normal forms of the program's code (by a program of this session's; the kernel checks each). -/
import Derived.Test.YtpgapdmmcanffaaC02d
namespace Go.Rx
open Go.Proofs
set_option maxRecDepth 100000
theorem nf20 (xs : List Int) (K : V → Heap → Prop) : (exF cfg20 Try.f20 (mkA [23, 0] 0 xs) [] K) = (
    ((
      ((
        (Int.NonNeg (List.getD xs 2 0 - 0))) ∧ (
        (Int.NonNeg (1099511627776 - List.getD xs 2 0))))) ∧ (
      br (Decidable.decide (List.getD xs 23 0 < 0))
        (
        K (vi (0)) [])
        (
        br (Decidable.decide (List.getD xs 23 0 ≥ Go.Rx.v18_0 [List.getD xs 0 0, List.getD xs 1 0, List.getD xs 2 0, List.getD xs 3 0, List.getD xs 4 0, List.getD xs 5 0, List.getD xs 6 0, List.getD xs 7 0, List.getD xs 8 0, List.getD xs 9 0, List.getD xs 10 0, List.getD xs 11 0, List.getD xs 12 0, List.getD xs 13 0, List.getD xs 14 0, List.getD xs 15 0, List.getD xs 16 0, List.getD xs 17 0, List.getD xs 18 0, List.getD xs 19 0, List.getD xs 20 0, List.getD xs 21 0, List.getD xs 22 0]))
          (
          K (vi (0)) [])
          (
          K (vi (Go.IntKind.wrap Go.IntKind.i64 (List.getD xs 11 0 + List.getD xs 23 0))) []))))) := by
  kernel_rfl

theorem nf17 (xs : List Int) (K : V → Heap → Prop) : (exF cfg17 Try.f17 (mkA [11] 0 xs) [] K) = (
    K (.agg [vi (Go.IntKind.wrap Go.IntKind.i64 (1 + Go.IntKind.wrap Go.IntKind.i64 (Int.tmod (Go.IntKind.wrap Go.IntKind.u64 (List.getD xs 0 0)) (Go.IntKind.wrap Go.IntKind.u64 (Go.IntKind.wrap Go.IntKind.i64 (Go.IntKind.wrap Go.IntKind.i64 (64 - 1) + 1)))))), vi (Go.IntKind.wrap Go.IntKind.i64 (1 + Go.IntKind.wrap Go.IntKind.i64 (Int.tmod (Go.IntKind.wrap Go.IntKind.u64 (List.getD xs 1 0)) (Go.IntKind.wrap Go.IntKind.u64 (Go.IntKind.wrap Go.IntKind.i64 (Go.IntKind.wrap Go.IntKind.i64 (8 - 1) + 1)))))), vi (Go.IntKind.wrap Go.IntKind.i64 (1 + Go.IntKind.wrap Go.IntKind.i64 (Int.tmod (Go.IntKind.wrap Go.IntKind.u64 (List.getD xs 2 0)) (Go.IntKind.wrap Go.IntKind.u64 (Go.IntKind.wrap Go.IntKind.i64 (Go.IntKind.wrap Go.IntKind.i64 (256 - 1) + 1)))))), vi (Go.IntKind.wrap Go.IntKind.i64 (1 + Go.IntKind.wrap Go.IntKind.i64 (Int.tmod (Go.IntKind.wrap Go.IntKind.u64 (List.getD xs 3 0)) (Go.IntKind.wrap Go.IntKind.u64 (Go.IntKind.wrap Go.IntKind.i64 (Go.IntKind.wrap Go.IntKind.i64 (64 - 1) + 1)))))), vi (Go.IntKind.wrap Go.IntKind.i64 (0 + Go.IntKind.wrap Go.IntKind.i64 (Int.tmod (Go.IntKind.wrap Go.IntKind.u64 (List.getD xs 4 0)) (Go.IntKind.wrap Go.IntKind.u64 (Go.IntKind.wrap Go.IntKind.i64 (Go.IntKind.wrap Go.IntKind.i64 (16 - 0) + 1)))))), vi (Go.IntKind.wrap Go.IntKind.i64 (0 + Go.IntKind.wrap Go.IntKind.i64 (Int.tmod (Go.IntKind.wrap Go.IntKind.u64 (List.getD xs 5 0)) (Go.IntKind.wrap Go.IntKind.u64 (Go.IntKind.wrap Go.IntKind.i64 (Go.IntKind.wrap Go.IntKind.i64 (64 - 0) + 1)))))), vi (Go.IntKind.wrap Go.IntKind.i64 (1 + Go.IntKind.wrap Go.IntKind.i64 (Int.tmod (Go.IntKind.wrap Go.IntKind.u64 (List.getD xs 6 0)) (Go.IntKind.wrap Go.IntKind.u64 (Go.IntKind.wrap Go.IntKind.i64 (Go.IntKind.wrap Go.IntKind.i64 (1099511627776 - 1) + 1)))))), vi (Go.IntKind.wrap Go.IntKind.i64 (1 + Go.IntKind.wrap Go.IntKind.i64 (Int.tmod (Go.IntKind.wrap Go.IntKind.u64 (List.getD xs 7 0)) (Go.IntKind.wrap Go.IntKind.u64 (Go.IntKind.wrap Go.IntKind.i64 (Go.IntKind.wrap Go.IntKind.i64 (8 - 1) + 1)))))), vi (Go.IntKind.wrap Go.IntKind.i64 (0 + Go.IntKind.wrap Go.IntKind.i64 (Int.tmod (Go.IntKind.wrap Go.IntKind.u64 (List.getD xs 8 0)) (Go.IntKind.wrap Go.IntKind.u64 (Go.IntKind.wrap Go.IntKind.i64 (Go.IntKind.wrap Go.IntKind.i64 (8 - 0) + 1)))))), vi (Go.IntKind.wrap Go.IntKind.i64 (0 + Go.IntKind.wrap Go.IntKind.i64 (Int.tmod (Go.IntKind.wrap Go.IntKind.u64 (List.getD xs 9 0)) (Go.IntKind.wrap Go.IntKind.u64 (Go.IntKind.wrap Go.IntKind.i64 (Go.IntKind.wrap Go.IntKind.i64 (16 - 0) + 1)))))), vi (Go.IntKind.wrap Go.IntKind.i64 (1 + Go.IntKind.wrap Go.IntKind.i64 (Int.tmod (Go.IntKind.wrap Go.IntKind.u64 (List.getD xs 10 0)) (Go.IntKind.wrap Go.IntKind.u64 (Go.IntKind.wrap Go.IntKind.i64 (Go.IntKind.wrap Go.IntKind.i64 (8 - 1) + 1))))))]) []) := by
  kernel_rfl

end Go.Rx
