/- Normal forms of the program's code (by a program of this session's; the kernel checks each). -/
import Derived.Test.YtpgapdmmcanffaaC29d
namespace Go.Rx
open Go.Proofs
set_option maxRecDepth 100000
theorem nf56 (xs : List Int) (K : V → Heap → Prop) : (exF (cfgA 56 sig29d noU9) Try.f56 (mkA [23, 7, 0, 0] 0 xs) [] K) = (
    ((
      True) ∧ (
      br (Go.Rx.v50_1 [List.getD xs 30 0, List.getD xs 31 0] != 0)
        (
        K (vb (Bool.false)) [])
        (
        ((
          True) ∧ (
          br (Decidable.decide (Go.Rx.v50_0 [List.getD xs 30 0, List.getD xs 31 0] > Go.Rx.v14_2 [List.getD xs 0 0, List.getD xs 1 0, List.getD xs 2 0, List.getD xs 3 0, List.getD xs 4 0, List.getD xs 5 0, List.getD xs 6 0, List.getD xs 7 0, List.getD xs 8 0, List.getD xs 9 0, List.getD xs 10 0, List.getD xs 11 0, List.getD xs 12 0, List.getD xs 13 0, List.getD xs 14 0, List.getD xs 15 0, List.getD xs 16 0, List.getD xs 17 0, List.getD xs 18 0, List.getD xs 19 0, List.getD xs 20 0, List.getD xs 21 0, List.getD xs 22 0]))
            (
            K (vb (Bool.true)) [])
            (
            ((
              True) ∧ (
              K (vb (Decidable.decide (Go.Rx.v54_0 [List.getD xs 0 0, List.getD xs 1 0, List.getD xs 2 0, List.getD xs 3 0, List.getD xs 4 0, List.getD xs 5 0, List.getD xs 6 0, List.getD xs 7 0, List.getD xs 8 0, List.getD xs 9 0, List.getD xs 10 0, List.getD xs 11 0, List.getD xs 12 0, List.getD xs 13 0, List.getD xs 14 0, List.getD xs 15 0, List.getD xs 16 0, List.getD xs 17 0, List.getD xs 18 0, List.getD xs 19 0, List.getD xs 20 0, List.getD xs 21 0, List.getD xs 22 0, List.getD xs 23 0, List.getD xs 24 0, List.getD xs 25 0, List.getD xs 26 0, List.getD xs 27 0, List.getD xs 28 0, List.getD xs 29 0] ≤ Go.IntKind.wrap Go.IntKind.i64 (Go.IntKind.wrap Go.IntKind.i64 (List.getD xs 29 0 + 1) * Go.IntKind.wrap Go.IntKind.i64 (Go.Rx.v50_0 [List.getD xs 30 0, List.getD xs 31 0] - 1))))) []))))))))) := by
  kernel_rfl

theorem nf57 (xs : List Int) (K : V → Heap → Prop) : (exF (cfgA 57 sig29d noU9) Try.f57 (mkA [11, 7, 0, 0] 0 xs) [] K) = (
    ((
      True) ∧ (
      br (Go.Rx.v51_1 [List.getD xs 18 0, List.getD xs 19 0] != 0)
        (
        K (vb (Bool.false)) [])
        (
        br (Decidable.decide (Go.Rx.v51_0 [List.getD xs 18 0, List.getD xs 19 0] > List.getD xs 2 0))
          (
          K (vb (Bool.true)) [])
          (
          ((
            True) ∧ (
            K (vb (Decidable.decide (Go.Rx.v55_0 [List.getD xs 0 0, List.getD xs 1 0, List.getD xs 2 0, List.getD xs 3 0, List.getD xs 4 0, List.getD xs 5 0, List.getD xs 6 0, List.getD xs 7 0, List.getD xs 8 0, List.getD xs 9 0, List.getD xs 10 0, List.getD xs 11 0, List.getD xs 12 0, List.getD xs 13 0, List.getD xs 14 0, List.getD xs 15 0, List.getD xs 16 0, List.getD xs 17 0] ≤ Go.IntKind.wrap Go.IntKind.i64 (Go.IntKind.wrap Go.IntKind.i64 (List.getD xs 17 0 + 1) * Go.IntKind.wrap Go.IntKind.i64 (Go.Rx.v51_0 [List.getD xs 18 0, List.getD xs 19 0] - 1))))) []))))))) := by
  kernel_rfl

end Go.Rx
