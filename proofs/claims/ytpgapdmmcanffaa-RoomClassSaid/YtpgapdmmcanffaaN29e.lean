/- Normal forms of the program's code (by a program of this session's; the kernel checks each). -/
import Derived.Test.YtpgapdmmcanffaaC29e
namespace Go.Rx
open Go.Proofs
set_option maxRecDepth 100000
theorem nf53 (xs : List Int) (K : V → Heap → Prop) : (exF (cfgA 53 sig29e noU9) Try.f53 (mkA [] 0 xs) [] K) = (
    ((
      ((Go.Rx.rightM [1, 1, 10, 1, 0, 0, 9, 1, 0, 0, 1] = Bool.true) → (
        ((
          True) ∧ (
          ((
            True) ∧ (
            ((
              True) ∧ (
              ((
                True) ∧ (
                ((
                  True) ∧ (
                  K (vb (Go.Rx.v54_0 [List.getD (Go.Rx.layM [1, 1, 10, 1, 0, 0, 9, 1, 0, 0, 1]) 0 0, List.getD (Go.Rx.layM [1, 1, 10, 1, 0, 0, 9, 1, 0, 0, 1]) 1 0, List.getD (Go.Rx.layM [1, 1, 10, 1, 0, 0, 9, 1, 0, 0, 1]) 2 0, List.getD (Go.Rx.layM [1, 1, 10, 1, 0, 0, 9, 1, 0, 0, 1]) 3 0, List.getD (Go.Rx.layM [1, 1, 10, 1, 0, 0, 9, 1, 0, 0, 1]) 4 0, List.getD (Go.Rx.layM [1, 1, 10, 1, 0, 0, 9, 1, 0, 0, 1]) 5 0, List.getD (Go.Rx.layM [1, 1, 10, 1, 0, 0, 9, 1, 0, 0, 1]) 6 0, List.getD (Go.Rx.layM [1, 1, 10, 1, 0, 0, 9, 1, 0, 0, 1]) 7 0, List.getD (Go.Rx.layM [1, 1, 10, 1, 0, 0, 9, 1, 0, 0, 1]) 8 0, List.getD (Go.Rx.layM [1, 1, 10, 1, 0, 0, 9, 1, 0, 0, 1]) 9 0, List.getD (Go.Rx.layM [1, 1, 10, 1, 0, 0, 9, 1, 0, 0, 1]) 10 0, List.getD (Go.Rx.layM [1, 1, 10, 1, 0, 0, 9, 1, 0, 0, 1]) 11 0, List.getD (Go.Rx.layM [1, 1, 10, 1, 0, 0, 9, 1, 0, 0, 1]) 12 0, List.getD (Go.Rx.layM [1, 1, 10, 1, 0, 0, 9, 1, 0, 0, 1]) 13 0, List.getD (Go.Rx.layM [1, 1, 10, 1, 0, 0, 9, 1, 0, 0, 1]) 14 0, List.getD (Go.Rx.layM [1, 1, 10, 1, 0, 0, 9, 1, 0, 0, 1]) 15 0, List.getD (Go.Rx.layM [1, 1, 10, 1, 0, 0, 9, 1, 0, 0, 1]) 16 0, List.getD (Go.Rx.layM [1, 1, 10, 1, 0, 0, 9, 1, 0, 0, 1]) 17 0, List.getD (Go.Rx.layM [1, 1, 10, 1, 0, 0, 9, 1, 0, 0, 1]) 18 0, List.getD (Go.Rx.layM [1, 1, 10, 1, 0, 0, 9, 1, 0, 0, 1]) 19 0, List.getD (Go.Rx.layM [1, 1, 10, 1, 0, 0, 9, 1, 0, 0, 1]) 20 0, List.getD (Go.Rx.layM [1, 1, 10, 1, 0, 0, 9, 1, 0, 0, 1]) 21 0, List.getD (Go.Rx.layM [1, 1, 10, 1, 0, 0, 9, 1, 0, 0, 1]) 22 0, 0, 0, 0, 0, 32, 4, 1] == 9)) []))))))))))))) ∧ (
      ((Go.Rx.rightM [1, 1, 10, 1, 0, 0, 9, 1, 0, 0, 1] = Bool.false) → (
        K (vb (Bool.false)) []))))) := by
  kernel_rfl

end Go.Rx
