/- Normal forms of the program's code (by a program of this session's; the kernel checks each). -/
import Derived.Test.YtpgapdmmcanffaaC02m
namespace Go.Rx
open Go.Proofs
set_option maxRecDepth 100000
theorem nf4 (xs : List Int) (K : V → Heap → Prop) : (exF (cfgU 4) Try.f4 (mkA [11, 0, 0, 0] 0 xs) [] K) = (
    ((
      True) ∧ (
      ∀ y0, (
        ∀ y1, (
          ∀ y2, (
            ∀ y3, (
              ∀ y4, (
                ∀ y5, (
                  ∀ y6, (
                    ∀ y7, (
                      ∀ y8, (
                        ∀ y9, (
                          ∀ y10, (
                            ((y0 = Go.Rx.v17_0 [List.getD xs 0 0, List.getD xs 1 0, List.getD xs 2 0, List.getD xs 3 0, List.getD xs 4 0, List.getD xs 5 0, List.getD xs 6 0, List.getD xs 7 0, List.getD xs 8 0, List.getD xs 9 0, List.getD xs 10 0]) → (
                              ((y1 = Go.Rx.v17_1 [List.getD xs 0 0, List.getD xs 1 0, List.getD xs 2 0, List.getD xs 3 0, List.getD xs 4 0, List.getD xs 5 0, List.getD xs 6 0, List.getD xs 7 0, List.getD xs 8 0, List.getD xs 9 0, List.getD xs 10 0]) → (
                                ((y2 = Go.Rx.v17_2 [List.getD xs 0 0, List.getD xs 1 0, List.getD xs 2 0, List.getD xs 3 0, List.getD xs 4 0, List.getD xs 5 0, List.getD xs 6 0, List.getD xs 7 0, List.getD xs 8 0, List.getD xs 9 0, List.getD xs 10 0]) → (
                                  ((y3 = Go.Rx.v17_3 [List.getD xs 0 0, List.getD xs 1 0, List.getD xs 2 0, List.getD xs 3 0, List.getD xs 4 0, List.getD xs 5 0, List.getD xs 6 0, List.getD xs 7 0, List.getD xs 8 0, List.getD xs 9 0, List.getD xs 10 0]) → (
                                    ((y4 = Go.Rx.v17_4 [List.getD xs 0 0, List.getD xs 1 0, List.getD xs 2 0, List.getD xs 3 0, List.getD xs 4 0, List.getD xs 5 0, List.getD xs 6 0, List.getD xs 7 0, List.getD xs 8 0, List.getD xs 9 0, List.getD xs 10 0]) → (
                                      ((y5 = Go.Rx.v17_5 [List.getD xs 0 0, List.getD xs 1 0, List.getD xs 2 0, List.getD xs 3 0, List.getD xs 4 0, List.getD xs 5 0, List.getD xs 6 0, List.getD xs 7 0, List.getD xs 8 0, List.getD xs 9 0, List.getD xs 10 0]) → (
                                        ((y6 = Go.Rx.v17_6 [List.getD xs 0 0, List.getD xs 1 0, List.getD xs 2 0, List.getD xs 3 0, List.getD xs 4 0, List.getD xs 5 0, List.getD xs 6 0, List.getD xs 7 0, List.getD xs 8 0, List.getD xs 9 0, List.getD xs 10 0]) → (
                                          ((y7 = Go.Rx.v17_7 [List.getD xs 0 0, List.getD xs 1 0, List.getD xs 2 0, List.getD xs 3 0, List.getD xs 4 0, List.getD xs 5 0, List.getD xs 6 0, List.getD xs 7 0, List.getD xs 8 0, List.getD xs 9 0, List.getD xs 10 0]) → (
                                            ((y8 = Go.Rx.v17_8 [List.getD xs 0 0, List.getD xs 1 0, List.getD xs 2 0, List.getD xs 3 0, List.getD xs 4 0, List.getD xs 5 0, List.getD xs 6 0, List.getD xs 7 0, List.getD xs 8 0, List.getD xs 9 0, List.getD xs 10 0]) → (
                                              ((y9 = Go.Rx.v17_9 [List.getD xs 0 0, List.getD xs 1 0, List.getD xs 2 0, List.getD xs 3 0, List.getD xs 4 0, List.getD xs 5 0, List.getD xs 6 0, List.getD xs 7 0, List.getD xs 8 0, List.getD xs 9 0, List.getD xs 10 0]) → (
                                                ((y10 = Go.Rx.v17_10 [List.getD xs 0 0, List.getD xs 1 0, List.getD xs 2 0, List.getD xs 3 0, List.getD xs 4 0, List.getD xs 5 0, List.getD xs 6 0, List.getD xs 7 0, List.getD xs 8 0, List.getD xs 9 0, List.getD xs 10 0]) → (
                                                  ((
                                                    ((Go.Rx.rightM [y0, y1, y2, y3, y4, y5, y6, y7, y8, y9, y10] = Bool.true) → (
                                                      ∀ y11, (
                                                        ((y11 = Go.Rx.layM [y0, y1, y2, y3, y4, y5, y6, y7, y8, y9, y10]) → (
                                                          ((
                                                            ((
                                                              (Int.NonNeg (List.getD y11 2 0 - 0))) ∧ (
                                                              (Int.NonNeg (1099511627776 - List.getD y11 2 0))))) ∧ (
                                                            ∀ y12, (
                                                              ((y12 = Go.Rx.v18_0 [List.getD y11 0 0, List.getD y11 1 0, List.getD y11 2 0, List.getD y11 3 0, List.getD y11 4 0, List.getD y11 5 0, List.getD y11 6 0, List.getD y11 7 0, List.getD y11 8 0, List.getD y11 9 0, List.getD y11 10 0, List.getD y11 11 0, List.getD y11 12 0, List.getD y11 13 0, List.getD y11 14 0, List.getD y11 15 0, List.getD y11 16 0, List.getD y11 17 0, List.getD y11 18 0, List.getD y11 19 0, List.getD y11 20 0, List.getD y11 21 0, List.getD y11 22 0]) → (
                                                                ((
                                                                  True) ∧ (
                                                                  ∀ y13, (
                                                                    ((y13 = Go.Rx.v19_0 [y0, y1, y2, y3, y4, y5, y6, y7, y8, y9, y10]) → (
                                                                      br (y12 != y13)
                                                                        (
                                                                        K (vb (Bool.false)) [])
                                                                        (
                                                                        ((
                                                                          ((
                                                                            (Int.NonNeg (List.getD y11 2 0 - 0))) ∧ (
                                                                            (Int.NonNeg (1099511627776 - List.getD y11 2 0))))) ∧ (
                                                                          ∀ y14, (
                                                                            ((y14 = Go.Rx.v20_0 [List.getD y11 0 0, List.getD y11 1 0, List.getD y11 2 0, List.getD y11 3 0, List.getD y11 4 0, List.getD y11 5 0, List.getD y11 6 0, List.getD y11 7 0, List.getD y11 8 0, List.getD y11 9 0, List.getD y11 10 0, List.getD y11 11 0, List.getD y11 12 0, List.getD y11 13 0, List.getD y11 14 0, List.getD y11 15 0, List.getD y11 16 0, List.getD y11 17 0, List.getD y11 18 0, List.getD y11 19 0, List.getD y11 20 0, List.getD y11 21 0, List.getD y11 22 0, List.getD xs 11 0]) → (
                                                                              ((
                                                                                True) ∧ (
                                                                                ∀ y15, (
                                                                                  ((y15 = Go.Rx.v21_0 [y0, y1, y2, y3, y4, y5, y6, y7, y8, y9, y10, List.getD xs 11 0]) → (
                                                                                    br (y14 != y15)
                                                                                      (
                                                                                      K (vb (Bool.false)) [])
                                                                                      (
                                                                                      ((
                                                                                        (((List.getD y11 2 0 == 0) = Bool.false) → (
                                                                                          ((Decidable.decide (List.getD xs 12 0 < 0) = Bool.false) → (
                                                                                            ((Decidable.decide (List.getD xs 12 0 ≥ 5) = Bool.false) → (
                                                                                              (Decidable.decide (0 ≤ List.getD xs 12 0) = Bool.true)))))))) ∧ (
                                                                                        ∀ y16, (
                                                                                          ((y16 = Go.Rx.v22_0 [List.getD y11 0 0, List.getD y11 1 0, List.getD y11 2 0, List.getD y11 3 0, List.getD y11 4 0, List.getD y11 5 0, List.getD y11 6 0, List.getD y11 7 0, List.getD y11 8 0, List.getD y11 9 0, List.getD y11 10 0, List.getD y11 11 0, List.getD y11 12 0, List.getD y11 13 0, List.getD y11 14 0, List.getD y11 15 0, List.getD y11 16 0, List.getD y11 17 0, List.getD y11 18 0, List.getD y11 19 0, List.getD y11 20 0, List.getD y11 21 0, List.getD y11 22 0, List.getD xs 12 0, List.getD xs 13 0]) → (
                                                                                            ((
                                                                                              ((Decidable.decide (List.getD xs 12 0 < 0) = Bool.false) → (
                                                                                                ((Decidable.decide (List.getD xs 12 0 > 4) = Bool.false) → (
                                                                                                  ((Decidable.decide (0 < List.getD xs 12 0) = Bool.true) → (
                                                                                                    ((Decidable.decide (Go.IntKind.wrap Go.IntKind.i64 (0 + 1) < List.getD xs 12 0) = Bool.true) → (
                                                                                                      ((Decidable.decide (Go.IntKind.wrap Go.IntKind.i64 (Go.IntKind.wrap Go.IntKind.i64 (0 + 1) + 1) < List.getD xs 12 0) = Bool.true) → (
                                                                                                        ((Decidable.decide (Go.IntKind.wrap Go.IntKind.i64 (Go.IntKind.wrap Go.IntKind.i64 (Go.IntKind.wrap Go.IntKind.i64 (0 + 1) + 1) + 1) < List.getD xs 12 0) = Bool.true) → (
                                                                                                          ((Decidable.decide (Go.IntKind.wrap Go.IntKind.i64 (Go.IntKind.wrap Go.IntKind.i64 (Go.IntKind.wrap Go.IntKind.i64 (Go.IntKind.wrap Go.IntKind.i64 (0 + 1) + 1) + 1) + 1) < List.getD xs 12 0) = Bool.true) → (
                                                                                                            ((Decidable.decide (Go.IntKind.wrap Go.IntKind.i64 (Go.IntKind.wrap Go.IntKind.i64 (Go.IntKind.wrap Go.IntKind.i64 (Go.IntKind.wrap Go.IntKind.i64 (Go.IntKind.wrap Go.IntKind.i64 (0 + 1) + 1) + 1) + 1) + 1) < List.getD xs 12 0) = Bool.true) → (
                                                                                                              False))))))))))))))))) ∧ (
                                                                                              ∀ y17, (
                                                                                                ((y17 = Go.Rx.v23_0 [y0, y1, y2, y3, y4, y5, y6, y7, y8, y9, y10, List.getD xs 12 0, List.getD xs 13 0]) → (
                                                                                                  br (y16 != y17)
                                                                                                    (
                                                                                                    K (vb (Bool.false)) [])
                                                                                                    (
                                                                                                    ((
                                                                                                      True) ∧ (
                                                                                                      ∀ y18, (
                                                                                                        ((y18 = Go.Rx.v24_0 [List.getD y11 0 0, List.getD y11 1 0, List.getD y11 2 0, List.getD y11 3 0, List.getD y11 4 0, List.getD y11 5 0, List.getD y11 6 0, List.getD y11 7 0, List.getD y11 8 0, List.getD y11 9 0, List.getD y11 10 0, List.getD y11 11 0, List.getD y11 12 0, List.getD y11 13 0, List.getD y11 14 0, List.getD y11 15 0, List.getD y11 16 0, List.getD y11 17 0, List.getD y11 18 0, List.getD y11 19 0, List.getD y11 20 0, List.getD y11 21 0, List.getD y11 22 0, List.getD xs 11 0]) → (
                                                                                                          ((
                                                                                                            True) ∧ (
                                                                                                            ∀ y19, (
                                                                                                              ((y19 = Go.Rx.v25_0 [y0, y1, y2, y3, y4, y5, y6, y7, y8, y9, y10, List.getD xs 11 0]) → (
                                                                                                                br (y18 == y19)
                                                                                                                  (
                                                                                                                  ((
                                                                                                                    True) ∧ (
                                                                                                                    ∀ y20, (
                                                                                                                      ((y20 = Go.Rx.v26_0 [List.getD y11 0 0, List.getD y11 1 0, List.getD y11 2 0, List.getD y11 3 0, List.getD y11 4 0, List.getD y11 5 0, List.getD y11 6 0, List.getD y11 7 0, List.getD y11 8 0, List.getD y11 9 0, List.getD y11 10 0, List.getD y11 11 0, List.getD y11 12 0, List.getD y11 13 0, List.getD y11 14 0, List.getD y11 15 0, List.getD y11 16 0, List.getD y11 17 0, List.getD y11 18 0, List.getD y11 19 0, List.getD y11 20 0, List.getD y11 21 0, List.getD y11 22 0, List.getD xs 11 0]) → (
                                                                                                                        ((
                                                                                                                          True) ∧ (
                                                                                                                          ∀ y21, (
                                                                                                                            ((y21 = Go.Rx.v27_0 [y0, y1, y2, y3, y4, y5, y6, y7, y8, y9, y10, List.getD xs 11 0]) → (
                                                                                                                              br (y20 == y21)
                                                                                                                                (
                                                                                                                                ((
                                                                                                                                  True) ∧ (
                                                                                                                                  ∀ y22, (
                                                                                                                                    ((y22 = Go.Rx.v28_0 [List.getD y11 0 0, List.getD y11 1 0, List.getD y11 2 0, List.getD y11 3 0, List.getD y11 4 0, List.getD y11 5 0, List.getD y11 6 0, List.getD y11 7 0, List.getD y11 8 0, List.getD y11 9 0, List.getD y11 10 0, List.getD y11 11 0, List.getD y11 12 0, List.getD y11 13 0, List.getD y11 14 0, List.getD y11 15 0, List.getD y11 16 0, List.getD y11 17 0, List.getD y11 18 0, List.getD y11 19 0, List.getD y11 20 0, List.getD y11 21 0, List.getD y11 22 0, List.getD xs 11 0]) → (
                                                                                                                                      ((
                                                                                                                                        True) ∧ (
                                                                                                                                        ∀ y23, (
                                                                                                                                          ((y23 = Go.Rx.v29_0 [y0, y1, y2, y3, y4, y5, y6, y7, y8, y9, y10, List.getD xs 11 0]) → (
                                                                                                                                            br (y22 == y23)
                                                                                                                                              (
                                                                                                                                              ((
                                                                                                                                                True) ∧ (
                                                                                                                                                ∀ y24, (
                                                                                                                                                  ((y24 = Go.Rx.v30_0 [List.getD y11 0 0, List.getD y11 1 0, List.getD y11 2 0, List.getD y11 3 0, List.getD y11 4 0, List.getD y11 5 0, List.getD y11 6 0, List.getD y11 7 0, List.getD y11 8 0, List.getD y11 9 0, List.getD y11 10 0, List.getD y11 11 0, List.getD y11 12 0, List.getD y11 13 0, List.getD y11 14 0, List.getD y11 15 0, List.getD y11 16 0, List.getD y11 17 0, List.getD y11 18 0, List.getD y11 19 0, List.getD y11 20 0, List.getD y11 21 0, List.getD y11 22 0, List.getD xs 11 0]) → (
                                                                                                                                                    ((
                                                                                                                                                      True) ∧ (
                                                                                                                                                      ∀ y25, (
                                                                                                                                                        ((y25 = Go.Rx.v31_0 [y0, y1, y2, y3, y4, y5, y6, y7, y8, y9, y10, List.getD xs 11 0]) → (
                                                                                                                                                          br (y24 == y25)
                                                                                                                                                            (
                                                                                                                                                            ((
                                                                                                                                                              True) ∧ (
                                                                                                                                                              ∀ y26, (
                                                                                                                                                                ((y26 = Go.Rx.v32_0 [List.getD y11 0 0, List.getD y11 1 0, List.getD y11 2 0, List.getD y11 3 0, List.getD y11 4 0, List.getD y11 5 0, List.getD y11 6 0, List.getD y11 7 0, List.getD y11 8 0, List.getD y11 9 0, List.getD y11 10 0, List.getD y11 11 0, List.getD y11 12 0, List.getD y11 13 0, List.getD y11 14 0, List.getD y11 15 0, List.getD y11 16 0, List.getD y11 17 0, List.getD y11 18 0, List.getD y11 19 0, List.getD y11 20 0, List.getD y11 21 0, List.getD y11 22 0, List.getD xs 11 0]) → (
                                                                                                                                                                  ((
                                                                                                                                                                    True) ∧ (
                                                                                                                                                                    ∀ y27, (
                                                                                                                                                                      ((y27 = Go.Rx.v33_0 [y0, y1, y2, y3, y4, y5, y6, y7, y8, y9, y10, List.getD xs 11 0]) → (
                                                                                                                                                                        br (y26 == y27)
                                                                                                                                                                          (
                                                                                                                                                                          ((
                                                                                                                                                                            True) ∧ (
                                                                                                                                                                            ∀ y28, (
                                                                                                                                                                              ((y28 = Go.Rx.v34_0 [List.getD y11 0 0, List.getD y11 1 0, List.getD y11 2 0, List.getD y11 3 0, List.getD y11 4 0, List.getD y11 5 0, List.getD y11 6 0, List.getD y11 7 0, List.getD y11 8 0, List.getD y11 9 0, List.getD y11 10 0, List.getD y11 11 0, List.getD y11 12 0, List.getD y11 13 0, List.getD y11 14 0, List.getD y11 15 0, List.getD y11 16 0, List.getD y11 17 0, List.getD y11 18 0, List.getD y11 19 0, List.getD y11 20 0, List.getD y11 21 0, List.getD y11 22 0, List.getD xs 11 0]) → (
                                                                                                                                                                                ((
                                                                                                                                                                                  True) ∧ (
                                                                                                                                                                                  ∀ y29, (
                                                                                                                                                                                    ((y29 = Go.Rx.v35_0 [y0, y1, y2, y3, y4, y5, y6, y7, y8, y9, y10, List.getD xs 11 0]) → (
                                                                                                                                                                                      br (y28 == y29)
                                                                                                                                                                                        (
                                                                                                                                                                                        ((
                                                                                                                                                                                          True) ∧ (
                                                                                                                                                                                          K (vb (Bool.true)) [])))
                                                                                                                                                                                        (
                                                                                                                                                                                        K (vb (Bool.false)) []))))))))))))
                                                                                                                                                                          (
                                                                                                                                                                          K (vb (Bool.false)) []))))))))))))
                                                                                                                                                            (
                                                                                                                                                            K (vb (Bool.false)) []))))))))))))
                                                                                                                                              (
                                                                                                                                              K (vb (Bool.false)) []))))))))))))
                                                                                                                                (
                                                                                                                                K (vb (Bool.false)) []))))))))))))
                                                                                                                  (
                                                                                                                  K (vb (Bool.false)) [])))))))))))))))))))))))))))))))))))))))))))))))))) ∧ (
                                                    ((Go.Rx.rightM [y0, y1, y2, y3, y4, y5, y6, y7, y8, y9, y10] = Bool.false) → (
                                                      K (vb (Bool.false)) [])))))))))))))))))))))))))))))))))))))))) := by
  kernel_rfl

theorem nf7 (xs : List Int) (K : V → Heap → Prop) : (exF (cfgU 7) Try.f7 (mkA [11, 0, 0, 0] 0 xs) [] K) = (
    ((
      True) ∧ (
      ∀ y0, (
        ∀ y1, (
          ∀ y2, (
            ∀ y3, (
              ∀ y4, (
                ∀ y5, (
                  ∀ y6, (
                    ∀ y7, (
                      ∀ y8, (
                        ∀ y9, (
                          ∀ y10, (
                            ((y0 = Go.Rx.v17_0 [List.getD xs 0 0, List.getD xs 1 0, List.getD xs 2 0, List.getD xs 3 0, List.getD xs 4 0, List.getD xs 5 0, List.getD xs 6 0, List.getD xs 7 0, List.getD xs 8 0, List.getD xs 9 0, List.getD xs 10 0]) → (
                              ((y1 = Go.Rx.v17_1 [List.getD xs 0 0, List.getD xs 1 0, List.getD xs 2 0, List.getD xs 3 0, List.getD xs 4 0, List.getD xs 5 0, List.getD xs 6 0, List.getD xs 7 0, List.getD xs 8 0, List.getD xs 9 0, List.getD xs 10 0]) → (
                                ((y2 = Go.Rx.v17_2 [List.getD xs 0 0, List.getD xs 1 0, List.getD xs 2 0, List.getD xs 3 0, List.getD xs 4 0, List.getD xs 5 0, List.getD xs 6 0, List.getD xs 7 0, List.getD xs 8 0, List.getD xs 9 0, List.getD xs 10 0]) → (
                                  ((y3 = Go.Rx.v17_3 [List.getD xs 0 0, List.getD xs 1 0, List.getD xs 2 0, List.getD xs 3 0, List.getD xs 4 0, List.getD xs 5 0, List.getD xs 6 0, List.getD xs 7 0, List.getD xs 8 0, List.getD xs 9 0, List.getD xs 10 0]) → (
                                    ((y4 = Go.Rx.v17_4 [List.getD xs 0 0, List.getD xs 1 0, List.getD xs 2 0, List.getD xs 3 0, List.getD xs 4 0, List.getD xs 5 0, List.getD xs 6 0, List.getD xs 7 0, List.getD xs 8 0, List.getD xs 9 0, List.getD xs 10 0]) → (
                                      ((y5 = Go.Rx.v17_5 [List.getD xs 0 0, List.getD xs 1 0, List.getD xs 2 0, List.getD xs 3 0, List.getD xs 4 0, List.getD xs 5 0, List.getD xs 6 0, List.getD xs 7 0, List.getD xs 8 0, List.getD xs 9 0, List.getD xs 10 0]) → (
                                        ((y6 = Go.Rx.v17_6 [List.getD xs 0 0, List.getD xs 1 0, List.getD xs 2 0, List.getD xs 3 0, List.getD xs 4 0, List.getD xs 5 0, List.getD xs 6 0, List.getD xs 7 0, List.getD xs 8 0, List.getD xs 9 0, List.getD xs 10 0]) → (
                                          ((y7 = Go.Rx.v17_7 [List.getD xs 0 0, List.getD xs 1 0, List.getD xs 2 0, List.getD xs 3 0, List.getD xs 4 0, List.getD xs 5 0, List.getD xs 6 0, List.getD xs 7 0, List.getD xs 8 0, List.getD xs 9 0, List.getD xs 10 0]) → (
                                            ((y8 = Go.Rx.v17_8 [List.getD xs 0 0, List.getD xs 1 0, List.getD xs 2 0, List.getD xs 3 0, List.getD xs 4 0, List.getD xs 5 0, List.getD xs 6 0, List.getD xs 7 0, List.getD xs 8 0, List.getD xs 9 0, List.getD xs 10 0]) → (
                                              ((y9 = Go.Rx.v17_9 [List.getD xs 0 0, List.getD xs 1 0, List.getD xs 2 0, List.getD xs 3 0, List.getD xs 4 0, List.getD xs 5 0, List.getD xs 6 0, List.getD xs 7 0, List.getD xs 8 0, List.getD xs 9 0, List.getD xs 10 0]) → (
                                                ((y10 = Go.Rx.v17_10 [List.getD xs 0 0, List.getD xs 1 0, List.getD xs 2 0, List.getD xs 3 0, List.getD xs 4 0, List.getD xs 5 0, List.getD xs 6 0, List.getD xs 7 0, List.getD xs 8 0, List.getD xs 9 0, List.getD xs 10 0]) → (
                                                  ((
                                                    ((Go.Rx.rightM [y0, y1, y2, y3, y4, y5, y6, y7, y8, y9, y10] = Bool.true) → (
                                                      ∀ y11, (
                                                        ((y11 = Go.Rx.layM [y0, y1, y2, y3, y4, y5, y6, y7, y8, y9, y10]) → (
                                                          ((
                                                            True) ∧ (
                                                            ∀ y12, (
                                                              ∀ y13, (
                                                                ∀ y14, (
                                                                  ((y12 = Go.Rx.v37_0 [List.getD y11 0 0, List.getD y11 1 0, List.getD y11 2 0, List.getD y11 3 0, List.getD y11 4 0, List.getD y11 5 0, List.getD y11 6 0, List.getD y11 7 0, List.getD y11 8 0, List.getD y11 9 0, List.getD y11 10 0, List.getD y11 11 0, List.getD y11 12 0, List.getD y11 13 0, List.getD y11 14 0, List.getD y11 15 0, List.getD y11 16 0, List.getD y11 17 0, List.getD y11 18 0, List.getD y11 19 0, List.getD y11 20 0, List.getD y11 21 0, List.getD y11 22 0, List.getD xs 11 0]) → (
                                                                    ((y13 = Go.Rx.v37_1 [List.getD y11 0 0, List.getD y11 1 0, List.getD y11 2 0, List.getD y11 3 0, List.getD y11 4 0, List.getD y11 5 0, List.getD y11 6 0, List.getD y11 7 0, List.getD y11 8 0, List.getD y11 9 0, List.getD y11 10 0, List.getD y11 11 0, List.getD y11 12 0, List.getD y11 13 0, List.getD y11 14 0, List.getD y11 15 0, List.getD y11 16 0, List.getD y11 17 0, List.getD y11 18 0, List.getD y11 19 0, List.getD y11 20 0, List.getD y11 21 0, List.getD y11 22 0, List.getD xs 11 0]) → (
                                                                      ((y14 = Go.Rx.v37_2 [List.getD y11 0 0, List.getD y11 1 0, List.getD y11 2 0, List.getD y11 3 0, List.getD y11 4 0, List.getD y11 5 0, List.getD y11 6 0, List.getD y11 7 0, List.getD y11 8 0, List.getD y11 9 0, List.getD y11 10 0, List.getD y11 11 0, List.getD y11 12 0, List.getD y11 13 0, List.getD y11 14 0, List.getD y11 15 0, List.getD y11 16 0, List.getD y11 17 0, List.getD y11 18 0, List.getD y11 19 0, List.getD y11 20 0, List.getD y11 21 0, List.getD y11 22 0, List.getD xs 11 0]) → (
                                                                        ((
                                                                          True) ∧ (
                                                                          ∀ y15, (
                                                                            ∀ y16, (
                                                                              ∀ y17, (
                                                                                ((y15 = Go.Rx.v40_0 [y0, y1, y2, y3, y4, y5, y6, y7, y8, y9, y10, List.getD xs 11 0]) → (
                                                                                  ((y16 = Go.Rx.v40_1 [y0, y1, y2, y3, y4, y5, y6, y7, y8, y9, y10, List.getD xs 11 0]) → (
                                                                                    ((y17 = Go.Rx.v40_2 [y0, y1, y2, y3, y4, y5, y6, y7, y8, y9, y10, List.getD xs 11 0]) → (
                                                                                      ((
                                                                                        True) ∧ (
                                                                                        ∀ y18, (
                                                                                          ((y18 = Go.Rx.v15_0 [List.getD y11 0 0, List.getD y11 1 0, List.getD y11 2 0, List.getD y11 3 0, List.getD y11 4 0, List.getD y11 5 0, List.getD y11 6 0, List.getD y11 7 0, List.getD y11 8 0, List.getD y11 9 0, List.getD y11 10 0, List.getD y11 11 0, List.getD y11 12 0, List.getD y11 13 0, List.getD y11 14 0, List.getD y11 15 0, List.getD y11 16 0, List.getD y11 17 0, List.getD y11 18 0, List.getD y11 19 0, List.getD y11 20 0, List.getD y11 21 0, List.getD y11 22 0]) → (
                                                                                            ((
                                                                                              True) ∧ (
                                                                                              ∀ y19, (
                                                                                                ((y19 = Go.Rx.v41_0 [y0, y1, y2, y3, y4, y5, y6, y7, y8, y9, y10]) → (
                                                                                                  br (y18 != y19)
                                                                                                    (
                                                                                                    K (vb (Bool.false)) [])
                                                                                                    (
                                                                                                    ((
                                                                                                      True) ∧ (
                                                                                                      ∀ y20, (
                                                                                                        ((y20 = Go.Rx.v38_0 [List.getD y11 0 0, List.getD y11 1 0, List.getD y11 2 0, List.getD y11 3 0, List.getD y11 4 0, List.getD y11 5 0, List.getD y11 6 0, List.getD y11 7 0, List.getD y11 8 0, List.getD y11 9 0, List.getD y11 10 0, List.getD y11 11 0, List.getD y11 12 0, List.getD y11 13 0, List.getD y11 14 0, List.getD y11 15 0, List.getD y11 16 0, List.getD y11 17 0, List.getD y11 18 0, List.getD y11 19 0, List.getD y11 20 0, List.getD y11 21 0, List.getD y11 22 0]) → (
                                                                                                          ((
                                                                                                            True) ∧ (
                                                                                                            ∀ y21, (
                                                                                                              ((y21 = Go.Rx.v42_0 [y0, y1, y2, y3, y4, y5, y6, y7, y8, y9, y10]) → (
                                                                                                                br (y20 != y21)
                                                                                                                  (
                                                                                                                  K (vb (Bool.false)) [])
                                                                                                                  (
                                                                                                                  br (y12 != y15)
                                                                                                                    (
                                                                                                                    K (vb (Bool.false)) [])
                                                                                                                    (
                                                                                                                    br (y13 != y16)
                                                                                                                      (
                                                                                                                      K (vb (Bool.false)) [])
                                                                                                                      (
                                                                                                                      br (!y14 == y17)
                                                                                                                        (
                                                                                                                        K (vb (Bool.false)) [])
                                                                                                                        (
                                                                                                                        ((
                                                                                                                          True) ∧ (
                                                                                                                          ∀ y22, (
                                                                                                                            ∀ y23, (
                                                                                                                              ∀ y24, (
                                                                                                                                ((y22 = Go.Rx.v37_0 [0, 0, 0, 0, 0, 0, 0, 0, 0, 0, 0, 0, 0, 0, 0, 0, 0, 0, 0, 0, 0, 0, 0, List.getD xs 11 0]) → (
                                                                                                                                  ((y23 = Go.Rx.v37_1 [0, 0, 0, 0, 0, 0, 0, 0, 0, 0, 0, 0, 0, 0, 0, 0, 0, 0, 0, 0, 0, 0, 0, List.getD xs 11 0]) → (
                                                                                                                                    ((y24 = Go.Rx.v37_2 [0, 0, 0, 0, 0, 0, 0, 0, 0, 0, 0, 0, 0, 0, 0, 0, 0, 0, 0, 0, 0, 0, 0, List.getD xs 11 0]) → (
                                                                                                                                      br (y24)
                                                                                                                                        (
                                                                                                                                        K (vb (Bool.false)) [])
                                                                                                                                        (
                                                                                                                                        ((
                                                                                                                                          True) ∧ (
                                                                                                                                          ∀ y25, (
                                                                                                                                            ((y25 = Go.Rx.v15_0 [0, 0, 0, 0, 0, 0, 0, 0, 0, 0, 0, 0, 0, 0, 0, 0, 0, 0, 0, 0, 0, 0, 0]) → (
                                                                                                                                              ((
                                                                                                                                                True) ∧ (
                                                                                                                                                ∀ y26, (
                                                                                                                                                  ((y26 = Go.Rx.v38_0 [0, 0, 0, 0, 0, 0, 0, 0, 0, 0, 0, 0, 0, 0, 0, 0, 0, 0, 0, 0, 0, 0, 0]) → (
                                                                                                                                                    ((
                                                                                                                                                      ((
                                                                                                                                                        (Int.NonNeg (0 - 0))) ∧ (
                                                                                                                                                        (Int.NonNeg (1099511627776 - 0))))) ∧ (
                                                                                                                                                      ∀ y27, (
                                                                                                                                                        ((y27 = Go.Rx.v18_0 [0, 0, 0, 0, 0, 0, 0, 0, 0, 0, 0, 0, 0, 0, 0, 0, 0, 0, 0, 0, 0, 0, 0]) → (
                                                                                                                                                          ((
                                                                                                                                                            ((Decidable.decide (List.getD xs 11 0 < 0) = Bool.false) → (
                                                                                                                                                              ((Decidable.decide (List.getD xs 11 0 ≥ 0) = Bool.false) → (
                                                                                                                                                                ((!0 == 0) = Bool.true)))))) ∧ (
                                                                                                                                                            ∀ y28, (
                                                                                                                                                              ((y28 = Go.Rx.v43_0 [0, 0, 0, 0, 0, 0, 0, 0, 0, 0, 0, 0, 0, 0, 0, 0, 0, 0, 0, 0, 0, 0, 0, List.getD xs 11 0]) → (
                                                                                                                                                                ((
                                                                                                                                                                  ((
                                                                                                                                                                    (Int.NonNeg (0 - 0))) ∧ (
                                                                                                                                                                    (Int.NonNeg (1099511627776 - 0))))) ∧ (
                                                                                                                                                                  ∀ y29, (
                                                                                                                                                                    ((y29 = Go.Rx.v20_0 [0, 0, 0, 0, 0, 0, 0, 0, 0, 0, 0, 0, 0, 0, 0, 0, 0, 0, 0, 0, 0, 0, 0, List.getD xs 13 0]) → (
                                                                                                                                                                      ((
                                                                                                                                                                        True) ∧ (
                                                                                                                                                                        ∀ y30, (
                                                                                                                                                                          ((y30 = Go.Rx.v24_0 [0, 0, 0, 0, 0, 0, 0, 0, 0, 0, 0, 0, 0, 0, 0, 0, 0, 0, 0, 0, 0, 0, 0, List.getD xs 13 0]) → (
                                                                                                                                                                            ((
                                                                                                                                                                              (((0 == 0) = Bool.false) → (
                                                                                                                                                                                ((Decidable.decide (List.getD xs 13 0 < 0) = Bool.false) → (
                                                                                                                                                                                  ((Decidable.decide (List.getD xs 13 0 ≥ 5) = Bool.false) → (
                                                                                                                                                                                    (Decidable.decide (0 ≤ List.getD xs 13 0) = Bool.true)))))))) ∧ (
                                                                                                                                                                              ∀ y31, (
                                                                                                                                                                                ((y31 = Go.Rx.v22_0 [0, 0, 0, 0, 0, 0, 0, 0, 0, 0, 0, 0, 0, 0, 0, 0, 0, 0, 0, 0, 0, 0, 0, List.getD xs 13 0, 1]) → (
                                                                                                                                                                                  ((
                                                                                                                                                                                    True) ∧ (
                                                                                                                                                                                    ∀ y32, (
                                                                                                                                                                                      ((y32 = Go.Rx.v44_0 [0, 0, 0, 0, 0, 0, 0, 0, 0, 0, 0, 0, 0, 0, 0, 0, 0, 0, 0, 0, 0, 0, 0, List.getD xs 12 0, List.getD xs 13 0]) → (
                                                                                                                                                                                        ((
                                                                                                                                                                                          True) ∧ (
                                                                                                                                                                                          ∀ y33, (
                                                                                                                                                                                            ((y33 = Go.Rx.v45_0 [0, 0, 0, 0, 0, 0, 0, 0, 0, 0, 0, 0, 0, 0, 0, 0, 0, 0, 0, 0, 0, 0, 0, List.getD xs 13 0]) → (
                                                                                                                                                                                              ((
                                                                                                                                                                                                True) ∧ (
                                                                                                                                                                                                ∀ y34, (
                                                                                                                                                                                                  ((y34 = Go.Rx.v39_0 [0, 0, 0, 0, 0, 0, 0, 0, 0, 0, 0, 0, 0, 0, 0, 0, 0, 0, 0, 0, 0, 0, 0, List.getD xs 11 0]) → (
                                                                                                                                                                                                    ((
                                                                                                                                                                                                      True) ∧ (
                                                                                                                                                                                                      ∀ y35, (
                                                                                                                                                                                                        ((y35 = Go.Rx.v34_0 [0, 0, 0, 0, 0, 0, 0, 0, 0, 0, 0, 0, 0, 0, 0, 0, 0, 0, 0, 0, 0, 0, 0, List.getD xs 13 0]) → (
                                                                                                                                                                                                          br (Go.IntKind.wrap Go.IntKind.i64 (Go.IntKind.wrap Go.IntKind.i64 (Go.IntKind.wrap Go.IntKind.i64 (Go.IntKind.wrap Go.IntKind.i64 (Go.IntKind.wrap Go.IntKind.i64 (Go.IntKind.wrap Go.IntKind.i64 (Go.IntKind.wrap Go.IntKind.i64 (Go.IntKind.wrap Go.IntKind.i64 (Go.IntKind.wrap Go.IntKind.i64 (Go.IntKind.wrap Go.IntKind.i64 (y25 + y26) + y27) + y28) + y29) + y30) + y31) + y32) + y33) + y34) + y35) != 0)
                                                                                                                                                                                                            (
                                                                                                                                                                                                            K (vb (Bool.false)) [])
                                                                                                                                                                                                            (
                                                                                                                                                                                                            ((
                                                                                                                                                                                                              ((Decidable.decide (List.getD xs 11 0 < 0) = Bool.false) → (
                                                                                                                                                                                                                ((Decidable.decide (List.getD xs 11 0 ≥ List.getD y11 22 0) = Bool.false) → (
                                                                                                                                                                                                                  ((!List.getD y11 3 0 == 0) = Bool.true)))))) ∧ (
                                                                                                                                                                                                              ∀ y36, (
                                                                                                                                                                                                                ((y36 = Go.Rx.v43_0 [List.getD y11 0 0, List.getD y11 1 0, List.getD y11 2 0, List.getD y11 3 0, List.getD y11 4 0, List.getD y11 5 0, List.getD y11 6 0, List.getD y11 7 0, List.getD y11 8 0, List.getD y11 9 0, List.getD y11 10 0, List.getD y11 11 0, List.getD y11 12 0, List.getD y11 13 0, List.getD y11 14 0, List.getD y11 15 0, List.getD y11 16 0, List.getD y11 17 0, List.getD y11 18 0, List.getD y11 19 0, List.getD y11 20 0, List.getD y11 21 0, List.getD y11 22 0, List.getD xs 11 0]) → (
                                                                                                                                                                                                                  ((
                                                                                                                                                                                                                    ((Decidable.decide (List.getD xs 11 0 < 0) = Bool.false) → (
                                                                                                                                                                                                                      ((Decidable.decide (List.getD xs 11 0 ≥ Go.IntKind.wrap Go.IntKind.i64 (Go.IntKind.wrap Go.IntKind.i64 (Go.IntKind.wrap Go.IntKind.i64 (Int.tdiv (Go.IntKind.wrap Go.IntKind.i64 (Go.IntKind.wrap Go.IntKind.i64 (Go.IntKind.wrap Go.IntKind.i64 (Go.IntKind.wrap Go.IntKind.i64 (Go.IntKind.wrap Go.IntKind.i64 (Go.IntKind.wrap Go.IntKind.i64 (Go.IntKind.wrap Go.IntKind.i64 (Go.IntKind.wrap Go.IntKind.i64 (3 + y3) + Go.IntKind.wrap Go.IntKind.i64 (Int.tdiv (Go.IntKind.wrap Go.IntKind.i64 (y2 + 3)) 4)) + Go.IntKind.wrap Go.IntKind.i64 (5 * y2)) + 62) + Go.IntKind.wrap Go.IntKind.i64 (Go.IntKind.wrap Go.IntKind.i64 (5 * y1) * Go.IntKind.wrap Go.IntKind.i64 (y8 + 1))) + Go.IntKind.wrap Go.IntKind.i64 (5 * Go.IntKind.wrap Go.IntKind.i64 (y9 + 1))) + Go.IntKind.wrap Go.IntKind.i64 (32 * y2)) + 127)) 128) * 128) + Go.IntKind.wrap Go.IntKind.i64 (32 * y2))) = Bool.false) → (
                                                                                                                                                                                                                        ((!y3 == 0) = Bool.true)))))) ∧ (
                                                                                                                                                                                                                    ∀ y37, (
                                                                                                                                                                                                                      ((y37 = Go.Rx.v46_0 [y0, y1, y2, y3, y4, y5, y6, y7, y8, y9, y10, List.getD xs 11 0]) → (
                                                                                                                                                                                                                        br (y36 == y37)
                                                                                                                                                                                                                          (
                                                                                                                                                                                                                          ((
                                                                                                                                                                                                                            True) ∧ (
                                                                                                                                                                                                                            ∀ y38, (
                                                                                                                                                                                                                              ((y38 = Go.Rx.v44_0 [List.getD y11 0 0, List.getD y11 1 0, List.getD y11 2 0, List.getD y11 3 0, List.getD y11 4 0, List.getD y11 5 0, List.getD y11 6 0, List.getD y11 7 0, List.getD y11 8 0, List.getD y11 9 0, List.getD y11 10 0, List.getD y11 11 0, List.getD y11 12 0, List.getD y11 13 0, List.getD y11 14 0, List.getD y11 15 0, List.getD y11 16 0, List.getD y11 17 0, List.getD y11 18 0, List.getD y11 19 0, List.getD y11 20 0, List.getD y11 21 0, List.getD y11 22 0, List.getD xs 12 0, List.getD xs 13 0]) → (
                                                                                                                                                                                                                                ((
                                                                                                                                                                                                                                  True) ∧ (
                                                                                                                                                                                                                                  ∀ y39, (
                                                                                                                                                                                                                                    ((y39 = Go.Rx.v47_0 [y0, y1, y2, y3, y4, y5, y6, y7, y8, y9, y10, List.getD xs 12 0, List.getD xs 13 0]) → (
                                                                                                                                                                                                                                      br (y38 == y39)
                                                                                                                                                                                                                                        (
                                                                                                                                                                                                                                        ((
                                                                                                                                                                                                                                          True) ∧ (
                                                                                                                                                                                                                                          ∀ y40, (
                                                                                                                                                                                                                                            ((y40 = Go.Rx.v45_0 [List.getD y11 0 0, List.getD y11 1 0, List.getD y11 2 0, List.getD y11 3 0, List.getD y11 4 0, List.getD y11 5 0, List.getD y11 6 0, List.getD y11 7 0, List.getD y11 8 0, List.getD y11 9 0, List.getD y11 10 0, List.getD y11 11 0, List.getD y11 12 0, List.getD y11 13 0, List.getD y11 14 0, List.getD y11 15 0, List.getD y11 16 0, List.getD y11 17 0, List.getD y11 18 0, List.getD y11 19 0, List.getD y11 20 0, List.getD y11 21 0, List.getD y11 22 0, List.getD xs 13 0]) → (
                                                                                                                                                                                                                                              ((
                                                                                                                                                                                                                                                True) ∧ (
                                                                                                                                                                                                                                                ∀ y41, (
                                                                                                                                                                                                                                                  ((y41 = Go.Rx.v48_0 [y0, y1, y2, y3, y4, y5, y6, y7, y8, y9, y10, List.getD xs 13 0]) → (
                                                                                                                                                                                                                                                    br (y40 == y41)
                                                                                                                                                                                                                                                      (
                                                                                                                                                                                                                                                      ((
                                                                                                                                                                                                                                                        True) ∧ (
                                                                                                                                                                                                                                                        ∀ y42, (
                                                                                                                                                                                                                                                          ((y42 = Go.Rx.v39_0 [List.getD y11 0 0, List.getD y11 1 0, List.getD y11 2 0, List.getD y11 3 0, List.getD y11 4 0, List.getD y11 5 0, List.getD y11 6 0, List.getD y11 7 0, List.getD y11 8 0, List.getD y11 9 0, List.getD y11 10 0, List.getD y11 11 0, List.getD y11 12 0, List.getD y11 13 0, List.getD y11 14 0, List.getD y11 15 0, List.getD y11 16 0, List.getD y11 17 0, List.getD y11 18 0, List.getD y11 19 0, List.getD y11 20 0, List.getD y11 21 0, List.getD y11 22 0, List.getD xs 11 0]) → (
                                                                                                                                                                                                                                                            ((
                                                                                                                                                                                                                                                              True) ∧ (
                                                                                                                                                                                                                                                              ∀ y43, (
                                                                                                                                                                                                                                                                ((y43 = Go.Rx.v49_0 [y0, y1, y2, y3, y4, y5, y6, y7, y8, y9, y10, List.getD xs 11 0]) → (
                                                                                                                                                                                                                                                                  br (y42 == y43)
                                                                                                                                                                                                                                                                    (
                                                                                                                                                                                                                                                                    ((
                                                                                                                                                                                                                                                                      True) ∧ (
                                                                                                                                                                                                                                                                      K (vb (Bool.true)) [])))
                                                                                                                                                                                                                                                                    (
                                                                                                                                                                                                                                                                    K (vb (Bool.false)) []))))))))))))
                                                                                                                                                                                                                                                      (
                                                                                                                                                                                                                                                      K (vb (Bool.false)) []))))))))))))
                                                                                                                                                                                                                                        (
                                                                                                                                                                                                                                        K (vb (Bool.false)) []))))))))))))
                                                                                                                                                                                                                          (
                                                                                                                                                                                                                          K (vb (Bool.false)) [])))))))))))))))))))))))))))))))))))))))))))))))))))))))))))))))))))))))))))))))))))))))))))))))))))))))))))))))))))))))))))))))))))) ∧ (
                                                    ((Go.Rx.rightM [y0, y1, y2, y3, y4, y5, y6, y7, y8, y9, y10] = Bool.false) → (
                                                      ((
                                                        True) ∧ (
                                                        ∀ y44, (
                                                          ∀ y45, (
                                                            ∀ y46, (
                                                              ((y44 = Go.Rx.v37_0 [List.getD (Go.Rx.zer 23) 0 0, List.getD (Go.Rx.zer 23) 1 0, List.getD (Go.Rx.zer 23) 2 0, List.getD (Go.Rx.zer 23) 3 0, List.getD (Go.Rx.zer 23) 4 0, List.getD (Go.Rx.zer 23) 5 0, List.getD (Go.Rx.zer 23) 6 0, List.getD (Go.Rx.zer 23) 7 0, List.getD (Go.Rx.zer 23) 8 0, List.getD (Go.Rx.zer 23) 9 0, List.getD (Go.Rx.zer 23) 10 0, List.getD (Go.Rx.zer 23) 11 0, List.getD (Go.Rx.zer 23) 12 0, List.getD (Go.Rx.zer 23) 13 0, List.getD (Go.Rx.zer 23) 14 0, List.getD (Go.Rx.zer 23) 15 0, List.getD (Go.Rx.zer 23) 16 0, List.getD (Go.Rx.zer 23) 17 0, List.getD (Go.Rx.zer 23) 18 0, List.getD (Go.Rx.zer 23) 19 0, List.getD (Go.Rx.zer 23) 20 0, List.getD (Go.Rx.zer 23) 21 0, List.getD (Go.Rx.zer 23) 22 0, List.getD xs 11 0]) → (
                                                                ((y45 = Go.Rx.v37_1 [List.getD (Go.Rx.zer 23) 0 0, List.getD (Go.Rx.zer 23) 1 0, List.getD (Go.Rx.zer 23) 2 0, List.getD (Go.Rx.zer 23) 3 0, List.getD (Go.Rx.zer 23) 4 0, List.getD (Go.Rx.zer 23) 5 0, List.getD (Go.Rx.zer 23) 6 0, List.getD (Go.Rx.zer 23) 7 0, List.getD (Go.Rx.zer 23) 8 0, List.getD (Go.Rx.zer 23) 9 0, List.getD (Go.Rx.zer 23) 10 0, List.getD (Go.Rx.zer 23) 11 0, List.getD (Go.Rx.zer 23) 12 0, List.getD (Go.Rx.zer 23) 13 0, List.getD (Go.Rx.zer 23) 14 0, List.getD (Go.Rx.zer 23) 15 0, List.getD (Go.Rx.zer 23) 16 0, List.getD (Go.Rx.zer 23) 17 0, List.getD (Go.Rx.zer 23) 18 0, List.getD (Go.Rx.zer 23) 19 0, List.getD (Go.Rx.zer 23) 20 0, List.getD (Go.Rx.zer 23) 21 0, List.getD (Go.Rx.zer 23) 22 0, List.getD xs 11 0]) → (
                                                                  ((y46 = Go.Rx.v37_2 [List.getD (Go.Rx.zer 23) 0 0, List.getD (Go.Rx.zer 23) 1 0, List.getD (Go.Rx.zer 23) 2 0, List.getD (Go.Rx.zer 23) 3 0, List.getD (Go.Rx.zer 23) 4 0, List.getD (Go.Rx.zer 23) 5 0, List.getD (Go.Rx.zer 23) 6 0, List.getD (Go.Rx.zer 23) 7 0, List.getD (Go.Rx.zer 23) 8 0, List.getD (Go.Rx.zer 23) 9 0, List.getD (Go.Rx.zer 23) 10 0, List.getD (Go.Rx.zer 23) 11 0, List.getD (Go.Rx.zer 23) 12 0, List.getD (Go.Rx.zer 23) 13 0, List.getD (Go.Rx.zer 23) 14 0, List.getD (Go.Rx.zer 23) 15 0, List.getD (Go.Rx.zer 23) 16 0, List.getD (Go.Rx.zer 23) 17 0, List.getD (Go.Rx.zer 23) 18 0, List.getD (Go.Rx.zer 23) 19 0, List.getD (Go.Rx.zer 23) 20 0, List.getD (Go.Rx.zer 23) 21 0, List.getD (Go.Rx.zer 23) 22 0, List.getD xs 11 0]) → (
                                                                    ((
                                                                      True) ∧ (
                                                                      ∀ y47, (
                                                                        ∀ y48, (
                                                                          ∀ y49, (
                                                                            ((y47 = Go.Rx.v40_0 [y0, y1, y2, y3, y4, y5, y6, y7, y8, y9, y10, List.getD xs 11 0]) → (
                                                                              ((y48 = Go.Rx.v40_1 [y0, y1, y2, y3, y4, y5, y6, y7, y8, y9, y10, List.getD xs 11 0]) → (
                                                                                ((y49 = Go.Rx.v40_2 [y0, y1, y2, y3, y4, y5, y6, y7, y8, y9, y10, List.getD xs 11 0]) → (
                                                                                  K (vb (Bool.false)) [])))))))))))))))))))))))))))))))))))))))))))))))))))))))))))))) := by
  kernel_rfl

end Go.Rx
