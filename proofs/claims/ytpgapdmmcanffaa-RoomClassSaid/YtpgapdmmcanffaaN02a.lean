/- Normal forms of the program's code (by a program of this session's; the kernel checks each). -/
import Derived.Test.YtpgapdmmcanffaaC02
namespace Go.Rx
open Go.Proofs
set_option maxRecDepth 100000
theorem nf66 (xs : List Int) (K : V → Heap → Prop) : (exF cfg66 Try.f66 (mkA [3] 0 xs) [] K) = (
    br (Decidable.decide (List.getD xs 0 0 ≥ List.getD xs 1 0))
      (
      K (vb (Decidable.decide (List.getD xs 0 0 ≤ List.getD xs 2 0))) [])
      (
      K (vb (Bool.false)) [])) := by
  kernel_rfl

theorem nf68 (xs : List Int) (K : V → Heap → Prop) : (exF cfg66 Try.f68 (mkA [0, 0, 0] 0 xs) [] K) = (
    br (Decidable.decide (List.getD xs 0 0 ≥ List.getD xs 1 0))
      (
      K (vb (Decidable.decide (List.getD xs 0 0 ≤ List.getD xs 2 0))) [])
      (
      K (vb (Bool.false)) [])) := by
  kernel_rfl

theorem nf67 (xs : List Int) (K : V → Heap → Prop) : (exF cfg66 Try.f67 (mkA [0] 0 xs) [] K) = (
    K (vi (Go.IntKind.wrap Go.IntKind.i64 (Int.tdiv (Go.IntKind.wrap Go.IntKind.i64 (Go.IntKind.wrap Go.IntKind.i64 (List.getD xs 0 0 + 4) - 1)) 4))) []) := by
  kernel_rfl

theorem nf11 (xs : List Int) (K : V → Heap → Prop) : (exF cfg11 Try.f11 (mkA [11] 0 xs) [] K) = (
    ((
      True) ∧ (
      br (!Go.Rx.btw (List.getD xs 0 0) 1 64)
        (
        K (vi (2)) [])
        (
        ((
          True) ∧ (
          br (!Go.Rx.btw (List.getD xs 1 0) 1 8)
            (
            K (vi (2)) [])
            (
            ((
              True) ∧ (
              br (!Go.Rx.btw (List.getD xs 2 0) 1 256)
                (
                K (vi (2)) [])
                (
                ((
                  True) ∧ (
                  br (!Go.Rx.btw (List.getD xs 3 0) 1 64)
                    (
                    K (vi (2)) [])
                    (
                    ((
                      True) ∧ (
                      br (!Go.Rx.btw (List.getD xs 4 0) 0 16)
                        (
                        K (vi (2)) [])
                        (
                        ((
                          True) ∧ (
                          br (!Go.Rx.btw (List.getD xs 5 0) 0 64)
                            (
                            K (vi (2)) [])
                            (
                            ((
                              True) ∧ (
                              br (!Go.Rx.btw (List.getD xs 6 0) 1 1099511627776)
                                (
                                K (vi (2)) [])
                                (
                                ((
                                  True) ∧ (
                                  br (!Go.Rx.btw (List.getD xs 7 0) 1 8)
                                    (
                                    K (vi (2)) [])
                                    (
                                    ((
                                      True) ∧ (
                                      br (!Go.Rx.btw (List.getD xs 8 0) 0 8)
                                        (
                                        K (vi (2)) [])
                                        (
                                        ((
                                          True) ∧ (
                                          br (!Go.Rx.btw (List.getD xs 9 0) 0 16)
                                            (
                                            K (vi (2)) [])
                                            (
                                            ((
                                              True) ∧ (
                                              br (!Go.Rx.btw (List.getD xs 10 0) 1 8)
                                                (
                                                K (vi (2)) [])
                                                (
                                                K (vi (0)) [])))))))))))))))))))))))))))))))))) := by
  kernel_rfl

theorem nf13 (xs : List Int) (K : V → Heap → Prop) : (exF cfg13 Try.f13 (mkA [11] 0 xs) [] K) = (
    ((
      True) ∧ (
      br (Go.Rx.btw (List.getD xs 0 0) 1 64)
        (
        ((
          True) ∧ (
          br (Go.Rx.btw (List.getD xs 1 0) 1 8)
            (
            ((
              True) ∧ (
              br (Go.Rx.btw (List.getD xs 2 0) 1 256)
                (
                ((
                  True) ∧ (
                  ((
                    True) ∧ (
                    br (Go.Rx.btw (List.getD xs 4 0) 0 16)
                      (
                      ((
                        True) ∧ (
                        br (Go.Rx.btw (List.getD xs 5 0) 0 64)
                          (
                          ((
                            True) ∧ (
                            br (Go.Rx.btw (List.getD xs 3 0) 1 64)
                              (
                              br (Go.Rx.btw (List.getD xs 6 0) 1 1099511627776)
                                (
                                ((
                                  True) ∧ (
                                  br (Go.Rx.btw (List.getD xs 7 0) 1 8)
                                    (
                                    ((
                                      True) ∧ (
                                      br (Go.Rx.btw (List.getD xs 8 0) 0 8)
                                        (
                                        ((
                                          True) ∧ (
                                          br (Go.Rx.btw (List.getD xs 9 0) 0 16)
                                            (
                                            ((
                                              True) ∧ (
                                              K (vb (Go.Rx.btw (List.getD xs 10 0) 1 8)) [])))
                                            (
                                            K (vb (Bool.false)) []))))
                                        (
                                        K (vb (Bool.false)) []))))
                                    (
                                    K (vb (Bool.false)) []))))
                                (
                                K (vb (Bool.false)) []))
                              (
                              K (vb (Bool.false)) []))))
                          (
                          br (Go.Rx.btw (List.getD xs 3 0) 1 64)
                            (
                            K (vb (Bool.false)) [])
                            (
                            K (vb (Bool.false)) [])))))
                      (
                      br (Go.Rx.btw (List.getD xs 3 0) 1 64)
                        (
                        K (vb (Bool.false)) [])
                        (
                        K (vb (Bool.false)) [])))))))
                (
                ((
                  True) ∧ (
                  br (Go.Rx.btw (List.getD xs 4 0) 0 16)
                    (
                    ((
                      True) ∧ (
                      br (Go.Rx.btw (List.getD xs 5 0) 0 64)
                        (
                        ((
                          True) ∧ (
                          K (vb (Bool.false)) [])))
                        (
                        K (vb (Bool.false)) []))))
                    (
                    K (vb (Bool.false)) [])))))))
            (
            ((
              True) ∧ (
              br (Go.Rx.btw (List.getD xs 4 0) 0 16)
                (
                ((
                  True) ∧ (
                  br (Go.Rx.btw (List.getD xs 5 0) 0 64)
                    (
                    ((
                      True) ∧ (
                      K (vb (Bool.false)) [])))
                    (
                    K (vb (Bool.false)) []))))
                (
                K (vb (Bool.false)) [])))))))
        (
        ((
          True) ∧ (
          br (Go.Rx.btw (List.getD xs 4 0) 0 16)
            (
            ((
              True) ∧ (
              br (Go.Rx.btw (List.getD xs 5 0) 0 64)
                (
                ((
                  True) ∧ (
                  K (vb (Bool.false)) [])))
                (
                K (vb (Bool.false)) []))))
            (
            K (vb (Bool.false)) []))))))) := by
  kernel_rfl

end Go.Rx
