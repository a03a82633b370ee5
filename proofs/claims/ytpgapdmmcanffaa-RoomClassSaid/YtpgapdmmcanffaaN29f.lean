/- Normal forms of the program's code (by a program of this session's; the kernel checks each). -/
import Derived.Test.YtpgapdmmcanffaaC29f
namespace Go.Rx
open Go.Proofs
set_option maxRecDepth 100000
theorem nf8 (xs : List Int) (K : V → Heap → Prop) : (exF (cfgA 8 sig29f noU9) Try.f8 (mkA [11, 7, 0, 0] 0 xs) [] K) = (
    ((
      True) ∧ (
      ∀ y0, (
        ∀ y1, (
          ∀ y2, (
            ∀ y3, (
              ∀ y4, (
                ∀ y5, (
                  ∀ y6, (
                    ∀ y7, (
                      ∀ y8, (
                        ∀ y9, (
                          ∀ y10, (
                            ((y0 = Go.Rx.v17_0 [List.getD xs 0 0, List.getD xs 1 0, List.getD xs 2 0, List.getD xs 3 0, List.getD xs 4 0, List.getD xs 5 0, List.getD xs 6 0, List.getD xs 7 0, List.getD xs 8 0, List.getD xs 9 0, List.getD xs 10 0]) → (
                              ((y1 = Go.Rx.v17_1 [List.getD xs 0 0, List.getD xs 1 0, List.getD xs 2 0, List.getD xs 3 0, List.getD xs 4 0, List.getD xs 5 0, List.getD xs 6 0, List.getD xs 7 0, List.getD xs 8 0, List.getD xs 9 0, List.getD xs 10 0]) → (
                                ((y2 = Go.Rx.v17_2 [List.getD xs 0 0, List.getD xs 1 0, List.getD xs 2 0, List.getD xs 3 0, List.getD xs 4 0, List.getD xs 5 0, List.getD xs 6 0, List.getD xs 7 0, List.getD xs 8 0, List.getD xs 9 0, List.getD xs 10 0]) → (
                                  ((y3 = Go.Rx.v17_3 [List.getD xs 0 0, List.getD xs 1 0, List.getD xs 2 0, List.getD xs 3 0, List.getD xs 4 0, List.getD xs 5 0, List.getD xs 6 0, List.getD xs 7 0, List.getD xs 8 0, List.getD xs 9 0, List.getD xs 10 0]) → (
                                    ((y4 = Go.Rx.v17_4 [List.getD xs 0 0, List.getD xs 1 0, List.getD xs 2 0, List.getD xs 3 0, List.getD xs 4 0, List.getD xs 5 0, List.getD xs 6 0, List.getD xs 7 0, List.getD xs 8 0, List.getD xs 9 0, List.getD xs 10 0]) → (
                                      ((y5 = Go.Rx.v17_5 [List.getD xs 0 0, List.getD xs 1 0, List.getD xs 2 0, List.getD xs 3 0, List.getD xs 4 0, List.getD xs 5 0, List.getD xs 6 0, List.getD xs 7 0, List.getD xs 8 0, List.getD xs 9 0, List.getD xs 10 0]) → (
                                        ((y6 = Go.Rx.v17_6 [List.getD xs 0 0, List.getD xs 1 0, List.getD xs 2 0, List.getD xs 3 0, List.getD xs 4 0, List.getD xs 5 0, List.getD xs 6 0, List.getD xs 7 0, List.getD xs 8 0, List.getD xs 9 0, List.getD xs 10 0]) → (
                                          ((y7 = Go.Rx.v17_7 [List.getD xs 0 0, List.getD xs 1 0, List.getD xs 2 0, List.getD xs 3 0, List.getD xs 4 0, List.getD xs 5 0, List.getD xs 6 0, List.getD xs 7 0, List.getD xs 8 0, List.getD xs 9 0, List.getD xs 10 0]) → (
                                            ((y8 = Go.Rx.v17_8 [List.getD xs 0 0, List.getD xs 1 0, List.getD xs 2 0, List.getD xs 3 0, List.getD xs 4 0, List.getD xs 5 0, List.getD xs 6 0, List.getD xs 7 0, List.getD xs 8 0, List.getD xs 9 0, List.getD xs 10 0]) → (
                                              ((y9 = Go.Rx.v17_9 [List.getD xs 0 0, List.getD xs 1 0, List.getD xs 2 0, List.getD xs 3 0, List.getD xs 4 0, List.getD xs 5 0, List.getD xs 6 0, List.getD xs 7 0, List.getD xs 8 0, List.getD xs 9 0, List.getD xs 10 0]) → (
                                                ((y10 = Go.Rx.v17_10 [List.getD xs 0 0, List.getD xs 1 0, List.getD xs 2 0, List.getD xs 3 0, List.getD xs 4 0, List.getD xs 5 0, List.getD xs 6 0, List.getD xs 7 0, List.getD xs 8 0, List.getD xs 9 0, List.getD xs 10 0]) → (
                                                  ((
                                                    ((Go.Rx.rightM [y0, y1, y2, y3, y4, y5, y6, y7, y8, y9, y10] = Bool.true) → (
                                                      ∀ y11, (
                                                        ((y11 = Go.Rx.layM [y0, y1, y2, y3, y4, y5, y6, y7, y8, y9, y10]) → (
                                                          ((
                                                            True) ∧ (
                                                            ∀ y12, (
                                                              ∀ y13, (
                                                                ((y12 = Go.Rx.v50_0 [List.getD xs 18 0, List.getD xs 19 0]) → (
                                                                  ((y13 = Go.Rx.v50_1 [List.getD xs 18 0, List.getD xs 19 0]) → (
                                                                    ((
                                                                      True) ∧ (
                                                                      ∀ y14, (
                                                                        ∀ y15, (
                                                                          ((y14 = Go.Rx.v51_0 [List.getD xs 18 0, List.getD xs 19 0]) → (
                                                                            ((y15 = Go.Rx.v51_1 [List.getD xs 18 0, List.getD xs 19 0]) → (
                                                                              br (y12 != y14)
                                                                                (
                                                                                K (vb (Bool.false)) [])
                                                                                (
                                                                                br (y13 != y15)
                                                                                  (
                                                                                  K (vb (Bool.false)) [])
                                                                                  (
                                                                                  ((
                                                                                    True) ∧ (
                                                                                    ∀ y16, (
                                                                                      ((y16 = Go.Rx.v52_0 [List.getD xs 11 0, List.getD xs 12 0, List.getD xs 13 0, List.getD xs 14 0, List.getD xs 15 0, List.getD xs 16 0, List.getD xs 17 0]) → (
                                                                                        br (!y16)
                                                                                          (
                                                                                          ((
                                                                                            True) ∧ (
                                                                                            K (vb (Bool.true)) [])))
                                                                                          (
                                                                                          br (Decidable.decide (List.getD xs 17 0 > y2))
                                                                                            (
                                                                                            ((
                                                                                              True) ∧ (
                                                                                              K (vb (Bool.true)) [])))
                                                                                            (
                                                                                            ((
                                                                                              True) ∧ (
                                                                                              ∀ y17, (
                                                                                                ((y17 = Go.Rx.v54_0 [List.getD y11 0 0, List.getD y11 1 0, List.getD y11 2 0, List.getD y11 3 0, List.getD y11 4 0, List.getD y11 5 0, List.getD y11 6 0, List.getD y11 7 0, List.getD y11 8 0, List.getD y11 9 0, List.getD y11 10 0, List.getD y11 11 0, List.getD y11 12 0, List.getD y11 13 0, List.getD y11 14 0, List.getD y11 15 0, List.getD y11 16 0, List.getD y11 17 0, List.getD y11 18 0, List.getD y11 19 0, List.getD y11 20 0, List.getD y11 21 0, List.getD y11 22 0, List.getD xs 11 0, List.getD xs 12 0, List.getD xs 13 0, List.getD xs 14 0, List.getD xs 15 0, List.getD xs 16 0, List.getD xs 17 0]) → (
                                                                                                  ((
                                                                                                    True) ∧ (
                                                                                                    ∀ y18, (
                                                                                                      ((y18 = Go.Rx.v55_0 [y0, y1, y2, y3, y4, y5, y6, y7, y8, y9, y10, List.getD xs 11 0, List.getD xs 12 0, List.getD xs 13 0, List.getD xs 14 0, List.getD xs 15 0, List.getD xs 16 0, List.getD xs 17 0]) → (
                                                                                                        br (y17 == y18)
                                                                                                          (
                                                                                                          ((
                                                                                                            True) ∧ (
                                                                                                            ∀ y19, (
                                                                                                              ((y19 = Go.Rx.v56_0 [List.getD y11 0 0, List.getD y11 1 0, List.getD y11 2 0, List.getD y11 3 0, List.getD y11 4 0, List.getD y11 5 0, List.getD y11 6 0, List.getD y11 7 0, List.getD y11 8 0, List.getD y11 9 0, List.getD y11 10 0, List.getD y11 11 0, List.getD y11 12 0, List.getD y11 13 0, List.getD y11 14 0, List.getD y11 15 0, List.getD y11 16 0, List.getD y11 17 0, List.getD y11 18 0, List.getD y11 19 0, List.getD y11 20 0, List.getD y11 21 0, List.getD y11 22 0, List.getD xs 11 0, List.getD xs 12 0, List.getD xs 13 0, List.getD xs 14 0, List.getD xs 15 0, List.getD xs 16 0, List.getD xs 17 0, List.getD xs 18 0, List.getD xs 19 0]) → (
                                                                                                                ((
                                                                                                                  True) ∧ (
                                                                                                                  ∀ y20, (
                                                                                                                    ((y20 = Go.Rx.v57_0 [y0, y1, y2, y3, y4, y5, y6, y7, y8, y9, y10, List.getD xs 11 0, List.getD xs 12 0, List.getD xs 13 0, List.getD xs 14 0, List.getD xs 15 0, List.getD xs 16 0, List.getD xs 17 0, List.getD xs 18 0, List.getD xs 19 0]) → (
                                                                                                                      br (y19 == y20)
                                                                                                                        (
                                                                                                                        ((
                                                                                                                          True) ∧ (
                                                                                                                          ∀ y21, (
                                                                                                                            ((y21 = Go.Rx.v58_0 [List.getD y11 0 0, List.getD y11 1 0, List.getD y11 2 0, List.getD y11 3 0, List.getD y11 4 0, List.getD y11 5 0, List.getD y11 6 0, List.getD y11 7 0, List.getD y11 8 0, List.getD y11 9 0, List.getD y11 10 0, List.getD y11 11 0, List.getD y11 12 0, List.getD y11 13 0, List.getD y11 14 0, List.getD y11 15 0, List.getD y11 16 0, List.getD y11 17 0, List.getD y11 18 0, List.getD y11 19 0, List.getD y11 20 0, List.getD y11 21 0, List.getD y11 22 0, List.getD xs 11 0, List.getD xs 12 0, List.getD xs 13 0, List.getD xs 14 0, List.getD xs 15 0, List.getD xs 16 0, List.getD xs 17 0]) → (
                                                                                                                              ((
                                                                                                                                True) ∧ (
                                                                                                                                ∀ y22, (
                                                                                                                                  ((y22 = Go.Rx.v59_0 [List.getD xs 11 0, List.getD xs 12 0, List.getD xs 13 0, List.getD xs 14 0, List.getD xs 15 0, List.getD xs 16 0, List.getD xs 17 0]) → (
                                                                                                                                    br (y21 == y22)
                                                                                                                                      (
                                                                                                                                      ((
                                                                                                                                        True) ∧ (
                                                                                                                                        K (vb (Bool.true)) [])))
                                                                                                                                      (
                                                                                                                                      K (vb (Bool.false)) []))))))))))))
                                                                                                                        (
                                                                                                                        K (vb (Bool.false)) []))))))))))))
                                                                                                          (
                                                                                                          K (vb (Bool.false)) [])))))))))))))))))))))))))))))))))))))))))) ∧ (
                                                    ((Go.Rx.rightM [y0, y1, y2, y3, y4, y5, y6, y7, y8, y9, y10] = Bool.false) → (
                                                      ((
                                                        True) ∧ (
                                                        ∀ y23, (
                                                          ∀ y24, (
                                                            ((y23 = Go.Rx.v50_0 [List.getD xs 18 0, List.getD xs 19 0]) → (
                                                              ((y24 = Go.Rx.v50_1 [List.getD xs 18 0, List.getD xs 19 0]) → (
                                                                ((
                                                                  True) ∧ (
                                                                  ∀ y25, (
                                                                    ∀ y26, (
                                                                      ((y25 = Go.Rx.v51_0 [List.getD xs 18 0, List.getD xs 19 0]) → (
                                                                        ((y26 = Go.Rx.v51_1 [List.getD xs 18 0, List.getD xs 19 0]) → (
                                                                          K (vb (Bool.false)) [])))))))))))))))))))))))))))))))))))))))))))))))))))))))) := by
  kernel_rfl

theorem nf9 (xs : List Int) (K : V → Heap → Prop) : (exF (cfgA 9 sig29f noU9) Try.f9 (mkA [11, 7, 0, 0] 0 xs) [] K) = (
    ((
      True) ∧ (
      ∀ y0, (
        ∀ y1, (
          ∀ y2, (
            ∀ y3, (
              ∀ y4, (
                ∀ y5, (
                  ∀ y6, (
                    ∀ y7, (
                      ∀ y8, (
                        ∀ y9, (
                          ∀ y10, (
                            ((y0 = Go.Rx.v17_0 [List.getD xs 0 0, List.getD xs 1 0, List.getD xs 2 0, List.getD xs 3 0, List.getD xs 4 0, List.getD xs 5 0, List.getD xs 6 0, List.getD xs 7 0, List.getD xs 8 0, List.getD xs 9 0, List.getD xs 10 0]) → (
                              ((y1 = Go.Rx.v17_1 [List.getD xs 0 0, List.getD xs 1 0, List.getD xs 2 0, List.getD xs 3 0, List.getD xs 4 0, List.getD xs 5 0, List.getD xs 6 0, List.getD xs 7 0, List.getD xs 8 0, List.getD xs 9 0, List.getD xs 10 0]) → (
                                ((y2 = Go.Rx.v17_2 [List.getD xs 0 0, List.getD xs 1 0, List.getD xs 2 0, List.getD xs 3 0, List.getD xs 4 0, List.getD xs 5 0, List.getD xs 6 0, List.getD xs 7 0, List.getD xs 8 0, List.getD xs 9 0, List.getD xs 10 0]) → (
                                  ((y3 = Go.Rx.v17_3 [List.getD xs 0 0, List.getD xs 1 0, List.getD xs 2 0, List.getD xs 3 0, List.getD xs 4 0, List.getD xs 5 0, List.getD xs 6 0, List.getD xs 7 0, List.getD xs 8 0, List.getD xs 9 0, List.getD xs 10 0]) → (
                                    ((y4 = Go.Rx.v17_4 [List.getD xs 0 0, List.getD xs 1 0, List.getD xs 2 0, List.getD xs 3 0, List.getD xs 4 0, List.getD xs 5 0, List.getD xs 6 0, List.getD xs 7 0, List.getD xs 8 0, List.getD xs 9 0, List.getD xs 10 0]) → (
                                      ((y5 = Go.Rx.v17_5 [List.getD xs 0 0, List.getD xs 1 0, List.getD xs 2 0, List.getD xs 3 0, List.getD xs 4 0, List.getD xs 5 0, List.getD xs 6 0, List.getD xs 7 0, List.getD xs 8 0, List.getD xs 9 0, List.getD xs 10 0]) → (
                                        ((y6 = Go.Rx.v17_6 [List.getD xs 0 0, List.getD xs 1 0, List.getD xs 2 0, List.getD xs 3 0, List.getD xs 4 0, List.getD xs 5 0, List.getD xs 6 0, List.getD xs 7 0, List.getD xs 8 0, List.getD xs 9 0, List.getD xs 10 0]) → (
                                          ((y7 = Go.Rx.v17_7 [List.getD xs 0 0, List.getD xs 1 0, List.getD xs 2 0, List.getD xs 3 0, List.getD xs 4 0, List.getD xs 5 0, List.getD xs 6 0, List.getD xs 7 0, List.getD xs 8 0, List.getD xs 9 0, List.getD xs 10 0]) → (
                                            ((y8 = Go.Rx.v17_8 [List.getD xs 0 0, List.getD xs 1 0, List.getD xs 2 0, List.getD xs 3 0, List.getD xs 4 0, List.getD xs 5 0, List.getD xs 6 0, List.getD xs 7 0, List.getD xs 8 0, List.getD xs 9 0, List.getD xs 10 0]) → (
                                              ((y9 = Go.Rx.v17_9 [List.getD xs 0 0, List.getD xs 1 0, List.getD xs 2 0, List.getD xs 3 0, List.getD xs 4 0, List.getD xs 5 0, List.getD xs 6 0, List.getD xs 7 0, List.getD xs 8 0, List.getD xs 9 0, List.getD xs 10 0]) → (
                                                ((y10 = Go.Rx.v17_10 [List.getD xs 0 0, List.getD xs 1 0, List.getD xs 2 0, List.getD xs 3 0, List.getD xs 4 0, List.getD xs 5 0, List.getD xs 6 0, List.getD xs 7 0, List.getD xs 8 0, List.getD xs 9 0, List.getD xs 10 0]) → (
                                                  ((
                                                    ((Go.Rx.rightM [y0, y1, y2, y3, y4, y5, y6, y7, y8, y9, y10] = Bool.true) → (
                                                      ∀ y11, (
                                                        ((y11 = Go.Rx.layM [y0, y1, y2, y3, y4, y5, y6, y7, y8, y9, y10]) → (
                                                          ((
                                                            True) ∧ (
                                                            ∀ y12, (
                                                              ((y12 = Go.Rx.v52_0 [List.getD xs 11 0, List.getD xs 12 0, List.getD xs 13 0, List.getD xs 14 0, List.getD xs 15 0, List.getD xs 16 0, List.getD xs 17 0]) → (
                                                                br (!y12)
                                                                  (
                                                                  ((
                                                                    True) ∧ (
                                                                    K (vb (Bool.true)) [])))
                                                                  (
                                                                  br (Decidable.decide (List.getD xs 17 0 > y2))
                                                                    (
                                                                    ((
                                                                      True) ∧ (
                                                                      K (vb (Bool.true)) [])))
                                                                    (
                                                                    ((
                                                                      True) ∧ (
                                                                      ∀ y13, (
                                                                        ((y13 = Go.Rx.v56_0 [List.getD y11 0 0, List.getD y11 1 0, List.getD y11 2 0, List.getD y11 3 0, List.getD y11 4 0, List.getD y11 5 0, List.getD y11 6 0, List.getD y11 7 0, List.getD y11 8 0, List.getD y11 9 0, List.getD y11 10 0, List.getD y11 11 0, List.getD y11 12 0, List.getD y11 13 0, List.getD y11 14 0, List.getD y11 15 0, List.getD y11 16 0, List.getD y11 17 0, List.getD y11 18 0, List.getD y11 19 0, List.getD y11 20 0, List.getD y11 21 0, List.getD y11 22 0, List.getD xs 11 0, List.getD xs 12 0, List.getD xs 13 0, List.getD xs 14 0, List.getD xs 15 0, List.getD xs 16 0, List.getD xs 17 0, Go.IntKind.wrap Go.IntKind.i64 (Int.tmod (Go.IntKind.wrap Go.IntKind.u64 (List.getD xs 18 0)) 17), 1]) → (
                                                                          ((
                                                                            True) ∧ (
                                                                            ∀ y14, (
                                                                              ((y14 = Go.Rx.v54_0 [List.getD y11 0 0, List.getD y11 1 0, List.getD y11 2 0, List.getD y11 3 0, List.getD y11 4 0, List.getD y11 5 0, List.getD y11 6 0, List.getD y11 7 0, List.getD y11 8 0, List.getD y11 9 0, List.getD y11 10 0, List.getD y11 11 0, List.getD y11 12 0, List.getD y11 13 0, List.getD y11 14 0, List.getD y11 15 0, List.getD y11 16 0, List.getD y11 17 0, List.getD y11 18 0, List.getD y11 19 0, List.getD y11 20 0, List.getD y11 21 0, List.getD y11 22 0, List.getD xs 11 0, List.getD xs 12 0, List.getD xs 13 0, List.getD xs 14 0, List.getD xs 15 0, List.getD xs 16 0, List.getD xs 17 0]) → (
                                                                                br (!y13 == (y14 == 0))
                                                                                  (
                                                                                  K (vb (Bool.false)) [])
                                                                                  (
                                                                                  br (y13)
                                                                                    (
                                                                                    ((
                                                                                      True) ∧ (
                                                                                      ∀ y15, (
                                                                                        ((y15 = Go.Rx.v58_0 [List.getD y11 0 0, List.getD y11 1 0, List.getD y11 2 0, List.getD y11 3 0, List.getD y11 4 0, List.getD y11 5 0, List.getD y11 6 0, List.getD y11 7 0, List.getD y11 8 0, List.getD y11 9 0, List.getD y11 10 0, List.getD y11 11 0, List.getD y11 12 0, List.getD y11 13 0, List.getD y11 14 0, List.getD y11 15 0, List.getD y11 16 0, List.getD y11 17 0, List.getD y11 18 0, List.getD y11 19 0, List.getD y11 20 0, List.getD y11 21 0, List.getD y11 22 0, List.getD xs 11 0, List.getD xs 12 0, List.getD xs 13 0, List.getD xs 14 0, List.getD xs 15 0, List.getD xs 16 0, List.getD xs 17 0]) → (
                                                                                          br (y15 != Go.IntKind.wrap Go.IntKind.i64 (32 * y2))
                                                                                            (
                                                                                            K (vb (Bool.false)) [])
                                                                                            (
                                                                                            ((
                                                                                              True) ∧ (
                                                                                              ∀ y16, (
                                                                                                ((y16 = Go.Rx.v60_0 [List.getD xs 18 0]) → (
                                                                                                  ((
                                                                                                    True) ∧ (
                                                                                                    ∀ y17, (
                                                                                                      ((y17 = Go.Rx.v60_0 [List.getD xs 19 0]) → (
                                                                                                        br (Decidable.decide (List.getD xs 18 0 < 17))
                                                                                                          (
                                                                                                          ((
                                                                                                            True) ∧ (
                                                                                                            K (vb (Bool.true)) [])))
                                                                                                          (
                                                                                                          br (Decidable.decide (List.getD xs 19 0 < 17))
                                                                                                            (
                                                                                                            ((
                                                                                                              True) ∧ (
                                                                                                              K (vb (Bool.true)) [])))
                                                                                                            (
                                                                                                            br (Decidable.decide (y16 > y17))
                                                                                                              (
                                                                                                              ((
                                                                                                                True) ∧ (
                                                                                                                K (vb (Bool.true)) [])))
                                                                                                              (
                                                                                                              ((
                                                                                                                True) ∧ (
                                                                                                                ∀ y18, (
                                                                                                                  ((y18 = Go.Rx.v56_0 [List.getD y11 0 0, List.getD y11 1 0, List.getD y11 2 0, List.getD y11 3 0, List.getD y11 4 0, List.getD y11 5 0, List.getD y11 6 0, List.getD y11 7 0, List.getD y11 8 0, List.getD y11 9 0, List.getD y11 10 0, List.getD y11 11 0, List.getD y11 12 0, List.getD y11 13 0, List.getD y11 14 0, List.getD y11 15 0, List.getD y11 16 0, List.getD y11 17 0, List.getD y11 18 0, List.getD y11 19 0, List.getD y11 20 0, List.getD y11 21 0, List.getD y11 22 0, List.getD xs 11 0, List.getD xs 12 0, List.getD xs 13 0, List.getD xs 14 0, List.getD xs 15 0, List.getD xs 16 0, List.getD xs 17 0, List.getD xs 19 0, 1]) → (
                                                                                                                    br (y18)
                                                                                                                      (
                                                                                                                      ((
                                                                                                                        True) ∧ (
                                                                                                                        K (vb (Bool.true)) [])))
                                                                                                                      (
                                                                                                                      ((
                                                                                                                        True) ∧ (
                                                                                                                        ∀ y19, (
                                                                                                                          ((y19 = Go.Rx.v56_0 [List.getD y11 0 0, List.getD y11 1 0, List.getD y11 2 0, List.getD y11 3 0, List.getD y11 4 0, List.getD y11 5 0, List.getD y11 6 0, List.getD y11 7 0, List.getD y11 8 0, List.getD y11 9 0, List.getD y11 10 0, List.getD y11 11 0, List.getD y11 12 0, List.getD y11 13 0, List.getD y11 14 0, List.getD y11 15 0, List.getD y11 16 0, List.getD y11 17 0, List.getD y11 18 0, List.getD y11 19 0, List.getD y11 20 0, List.getD y11 21 0, List.getD y11 22 0, List.getD xs 11 0, List.getD xs 12 0, List.getD xs 13 0, List.getD xs 14 0, List.getD xs 15 0, List.getD xs 16 0, List.getD xs 17 0, List.getD xs 18 0, 1]) → (
                                                                                                                            br (!y19)
                                                                                                                              (
                                                                                                                              ((
                                                                                                                                True) ∧ (
                                                                                                                                K (vb (Bool.true)) [])))
                                                                                                                              (
                                                                                                                              K (vb (Bool.false)) []))))))))))))))))))))))))))))))))
                                                                                    (
                                                                                    ((
                                                                                      True) ∧ (
                                                                                      ∀ y20, (
                                                                                        ((y20 = Go.Rx.v60_0 [List.getD xs 18 0]) → (
                                                                                          ((
                                                                                            True) ∧ (
                                                                                            ∀ y21, (
                                                                                              ((y21 = Go.Rx.v60_0 [List.getD xs 19 0]) → (
                                                                                                br (Decidable.decide (List.getD xs 18 0 < 17))
                                                                                                  (
                                                                                                  ((
                                                                                                    True) ∧ (
                                                                                                    K (vb (Bool.true)) [])))
                                                                                                  (
                                                                                                  br (Decidable.decide (List.getD xs 19 0 < 17))
                                                                                                    (
                                                                                                    ((
                                                                                                      True) ∧ (
                                                                                                      K (vb (Bool.true)) [])))
                                                                                                    (
                                                                                                    br (Decidable.decide (y20 > y21))
                                                                                                      (
                                                                                                      ((
                                                                                                        True) ∧ (
                                                                                                        K (vb (Bool.true)) [])))
                                                                                                      (
                                                                                                      ((
                                                                                                        True) ∧ (
                                                                                                        ∀ y22, (
                                                                                                          ((y22 = Go.Rx.v56_0 [List.getD y11 0 0, List.getD y11 1 0, List.getD y11 2 0, List.getD y11 3 0, List.getD y11 4 0, List.getD y11 5 0, List.getD y11 6 0, List.getD y11 7 0, List.getD y11 8 0, List.getD y11 9 0, List.getD y11 10 0, List.getD y11 11 0, List.getD y11 12 0, List.getD y11 13 0, List.getD y11 14 0, List.getD y11 15 0, List.getD y11 16 0, List.getD y11 17 0, List.getD y11 18 0, List.getD y11 19 0, List.getD y11 20 0, List.getD y11 21 0, List.getD y11 22 0, List.getD xs 11 0, List.getD xs 12 0, List.getD xs 13 0, List.getD xs 14 0, List.getD xs 15 0, List.getD xs 16 0, List.getD xs 17 0, List.getD xs 19 0, 1]) → (
                                                                                                            br (y22)
                                                                                                              (
                                                                                                              ((
                                                                                                                True) ∧ (
                                                                                                                K (vb (Bool.true)) [])))
                                                                                                              (
                                                                                                              ((
                                                                                                                True) ∧ (
                                                                                                                ∀ y23, (
                                                                                                                  ((y23 = Go.Rx.v56_0 [List.getD y11 0 0, List.getD y11 1 0, List.getD y11 2 0, List.getD y11 3 0, List.getD y11 4 0, List.getD y11 5 0, List.getD y11 6 0, List.getD y11 7 0, List.getD y11 8 0, List.getD y11 9 0, List.getD y11 10 0, List.getD y11 11 0, List.getD y11 12 0, List.getD y11 13 0, List.getD y11 14 0, List.getD y11 15 0, List.getD y11 16 0, List.getD y11 17 0, List.getD y11 18 0, List.getD y11 19 0, List.getD y11 20 0, List.getD y11 21 0, List.getD y11 22 0, List.getD xs 11 0, List.getD xs 12 0, List.getD xs 13 0, List.getD xs 14 0, List.getD xs 15 0, List.getD xs 16 0, List.getD xs 17 0, List.getD xs 18 0, 1]) → (
                                                                                                                    br (!y23)
                                                                                                                      (
                                                                                                                      ((
                                                                                                                        True) ∧ (
                                                                                                                        K (vb (Bool.true)) [])))
                                                                                                                      (
                                                                                                                      K (vb (Bool.false)) [])))))))))))))))))))))))))))))))))))))))))))))))))) ∧ (
                                                    ((Go.Rx.rightM [y0, y1, y2, y3, y4, y5, y6, y7, y8, y9, y10] = Bool.false) → (
                                                      K (vb (Bool.false)) [])))))))))))))))))))))))))))))))))))))))) := by
  kernel_rfl

end Go.Rx
