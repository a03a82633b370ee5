/- Normal forms of the program's code (by a program of this session's; the kernel checks each). -/
import Derived.Test.YtpgapdmmcanffaaC02h
namespace Go.Rx
open Go.Proofs
set_option maxRecDepth 100000
theorem nf6 (xs : List Int) (K : V → Heap → Prop) : (exF (cfgT 6) Try.f6 (mkA [11, 0, 0] 0 xs) [] K) = (
    ((
      True) ∧ (
      ∀ y0, (
        ∀ y1, (
          ∀ y2, (
            ∀ y3, (
              ∀ y4, (
                ∀ y5, (
                  ∀ y6, (
                    ∀ y7, (
                      ∀ y8, (
                        ∀ y9, (
                          ∀ y10, (
                            ((y0 = Go.Rx.v17_0 [List.getD xs 0 0, List.getD xs 1 0, List.getD xs 2 0, List.getD xs 3 0, List.getD xs 4 0, List.getD xs 5 0, List.getD xs 6 0, List.getD xs 7 0, List.getD xs 8 0, List.getD xs 9 0, List.getD xs 10 0]) → (
                              ((y1 = Go.Rx.v17_1 [List.getD xs 0 0, List.getD xs 1 0, List.getD xs 2 0, List.getD xs 3 0, List.getD xs 4 0, List.getD xs 5 0, List.getD xs 6 0, List.getD xs 7 0, List.getD xs 8 0, List.getD xs 9 0, List.getD xs 10 0]) → (
                                ((y2 = Go.Rx.v17_2 [List.getD xs 0 0, List.getD xs 1 0, List.getD xs 2 0, List.getD xs 3 0, List.getD xs 4 0, List.getD xs 5 0, List.getD xs 6 0, List.getD xs 7 0, List.getD xs 8 0, List.getD xs 9 0, List.getD xs 10 0]) → (
                                  ((y3 = Go.Rx.v17_3 [List.getD xs 0 0, List.getD xs 1 0, List.getD xs 2 0, List.getD xs 3 0, List.getD xs 4 0, List.getD xs 5 0, List.getD xs 6 0, List.getD xs 7 0, List.getD xs 8 0, List.getD xs 9 0, List.getD xs 10 0]) → (
                                    ((y4 = Go.Rx.v17_4 [List.getD xs 0 0, List.getD xs 1 0, List.getD xs 2 0, List.getD xs 3 0, List.getD xs 4 0, List.getD xs 5 0, List.getD xs 6 0, List.getD xs 7 0, List.getD xs 8 0, List.getD xs 9 0, List.getD xs 10 0]) → (
                                      ((y5 = Go.Rx.v17_5 [List.getD xs 0 0, List.getD xs 1 0, List.getD xs 2 0, List.getD xs 3 0, List.getD xs 4 0, List.getD xs 5 0, List.getD xs 6 0, List.getD xs 7 0, List.getD xs 8 0, List.getD xs 9 0, List.getD xs 10 0]) → (
                                        ((y6 = Go.Rx.v17_6 [List.getD xs 0 0, List.getD xs 1 0, List.getD xs 2 0, List.getD xs 3 0, List.getD xs 4 0, List.getD xs 5 0, List.getD xs 6 0, List.getD xs 7 0, List.getD xs 8 0, List.getD xs 9 0, List.getD xs 10 0]) → (
                                          ((y7 = Go.Rx.v17_7 [List.getD xs 0 0, List.getD xs 1 0, List.getD xs 2 0, List.getD xs 3 0, List.getD xs 4 0, List.getD xs 5 0, List.getD xs 6 0, List.getD xs 7 0, List.getD xs 8 0, List.getD xs 9 0, List.getD xs 10 0]) → (
                                            ((y8 = Go.Rx.v17_8 [List.getD xs 0 0, List.getD xs 1 0, List.getD xs 2 0, List.getD xs 3 0, List.getD xs 4 0, List.getD xs 5 0, List.getD xs 6 0, List.getD xs 7 0, List.getD xs 8 0, List.getD xs 9 0, List.getD xs 10 0]) → (
                                              ((y9 = Go.Rx.v17_9 [List.getD xs 0 0, List.getD xs 1 0, List.getD xs 2 0, List.getD xs 3 0, List.getD xs 4 0, List.getD xs 5 0, List.getD xs 6 0, List.getD xs 7 0, List.getD xs 8 0, List.getD xs 9 0, List.getD xs 10 0]) → (
                                                ((y10 = Go.Rx.v17_10 [List.getD xs 0 0, List.getD xs 1 0, List.getD xs 2 0, List.getD xs 3 0, List.getD xs 4 0, List.getD xs 5 0, List.getD xs 6 0, List.getD xs 7 0, List.getD xs 8 0, List.getD xs 9 0, List.getD xs 10 0]) → (
                                                  ((
                                                    ((Go.Rx.rightM [y0, y1, y2, y3, y4, y5, y6, y7, y8, y9, y10] = Bool.true) → (
                                                      ∀ y11, (
                                                        ((y11 = Go.Rx.layM [y0, y1, y2, y3, y4, y5, y6, y7, y8, y9, y10]) → (
                                                          Req (!Go.IntKind.wrap Go.IntKind.u64 y2 == 0)
                                                            (
                                                            ((
                                                              True) ∧ (
                                                              ∀ y12, (
                                                                ((y12 = Go.Rx.v34_0 [List.getD y11 0 0, List.getD y11 1 0, List.getD y11 2 0, List.getD y11 3 0, List.getD y11 4 0, List.getD y11 5 0, List.getD y11 6 0, List.getD y11 7 0, List.getD y11 8 0, List.getD y11 9 0, List.getD y11 10 0, List.getD y11 11 0, List.getD y11 12 0, List.getD y11 13 0, List.getD y11 14 0, List.getD y11 15 0, List.getD y11 16 0, List.getD y11 17 0, List.getD y11 18 0, List.getD y11 19 0, List.getD y11 20 0, List.getD y11 21 0, List.getD y11 22 0, Go.IntKind.wrap Go.IntKind.i64 (Int.tmod (Go.IntKind.wrap Go.IntKind.u64 (List.getD xs 11 0)) (Go.IntKind.wrap Go.IntKind.u64 y2))]) → (
                                                                  ((
                                                                    True) ∧ (
                                                                    ∀ y13, (
                                                                      ∀ y14, (
                                                                        ∀ y15, (
                                                                          ((y13 = Go.Rx.v37_0 [List.getD y11 0 0, List.getD y11 1 0, List.getD y11 2 0, List.getD y11 3 0, List.getD y11 4 0, List.getD y11 5 0, List.getD y11 6 0, List.getD y11 7 0, List.getD y11 8 0, List.getD y11 9 0, List.getD y11 10 0, List.getD y11 11 0, List.getD y11 12 0, List.getD y11 13 0, List.getD y11 14 0, List.getD y11 15 0, List.getD y11 16 0, List.getD y11 17 0, List.getD y11 18 0, List.getD y11 19 0, List.getD y11 20 0, List.getD y11 21 0, List.getD y11 22 0, Go.IntKind.wrap Go.IntKind.i64 (y12 + Go.IntKind.wrap Go.IntKind.i64 (Int.tmod (Go.IntKind.wrap Go.IntKind.u64 (List.getD xs 12 0)) 32))]) → (
                                                                            ((y14 = Go.Rx.v37_1 [List.getD y11 0 0, List.getD y11 1 0, List.getD y11 2 0, List.getD y11 3 0, List.getD y11 4 0, List.getD y11 5 0, List.getD y11 6 0, List.getD y11 7 0, List.getD y11 8 0, List.getD y11 9 0, List.getD y11 10 0, List.getD y11 11 0, List.getD y11 12 0, List.getD y11 13 0, List.getD y11 14 0, List.getD y11 15 0, List.getD y11 16 0, List.getD y11 17 0, List.getD y11 18 0, List.getD y11 19 0, List.getD y11 20 0, List.getD y11 21 0, List.getD y11 22 0, Go.IntKind.wrap Go.IntKind.i64 (y12 + Go.IntKind.wrap Go.IntKind.i64 (Int.tmod (Go.IntKind.wrap Go.IntKind.u64 (List.getD xs 12 0)) 32))]) → (
                                                                              ((y15 = Go.Rx.v37_2 [List.getD y11 0 0, List.getD y11 1 0, List.getD y11 2 0, List.getD y11 3 0, List.getD y11 4 0, List.getD y11 5 0, List.getD y11 6 0, List.getD y11 7 0, List.getD y11 8 0, List.getD y11 9 0, List.getD y11 10 0, List.getD y11 11 0, List.getD y11 12 0, List.getD y11 13 0, List.getD y11 14 0, List.getD y11 15 0, List.getD y11 16 0, List.getD y11 17 0, List.getD y11 18 0, List.getD y11 19 0, List.getD y11 20 0, List.getD y11 21 0, List.getD y11 22 0, Go.IntKind.wrap Go.IntKind.i64 (y12 + Go.IntKind.wrap Go.IntKind.i64 (Int.tmod (Go.IntKind.wrap Go.IntKind.u64 (List.getD xs 12 0)) 32))]) → (
                                                                                br (Int.tmod y12 32 != 0)
                                                                                  (
                                                                                  K (vb (Bool.false)) [])
                                                                                  (
                                                                                  br (Int.tmod (Go.IntKind.wrap Go.IntKind.i64 (Int.tmod (Go.IntKind.wrap Go.IntKind.u64 (List.getD xs 11 0)) (Go.IntKind.wrap Go.IntKind.u64 y2))) 4 == 0)
                                                                                    (
                                                                                    br (Int.tmod y12 128 != 0)
                                                                                      (
                                                                                      K (vb (Bool.false)) [])
                                                                                      (
                                                                                      ((
                                                                                        True) ∧ (
                                                                                        ∀ y16, (
                                                                                          ((y16 = Go.Rx.v38_0 [List.getD y11 0 0, List.getD y11 1 0, List.getD y11 2 0, List.getD y11 3 0, List.getD y11 4 0, List.getD y11 5 0, List.getD y11 6 0, List.getD y11 7 0, List.getD y11 8 0, List.getD y11 9 0, List.getD y11 10 0, List.getD y11 11 0, List.getD y11 12 0, List.getD y11 13 0, List.getD y11 14 0, List.getD y11 15 0, List.getD y11 16 0, List.getD y11 17 0, List.getD y11 18 0, List.getD y11 19 0, List.getD y11 20 0, List.getD y11 21 0, List.getD y11 22 0]) → (
                                                                                            br (Decidable.decide (y12 < y16))
                                                                                              (
                                                                                              K (vb (Bool.false)) [])
                                                                                              (
                                                                                              br (y15)
                                                                                                (
                                                                                                br (y13 == Go.IntKind.wrap Go.IntKind.i64 (Int.tmod (Go.IntKind.wrap Go.IntKind.u64 (List.getD xs 11 0)) (Go.IntKind.wrap Go.IntKind.u64 y2)))
                                                                                                  (
                                                                                                  br (y14 == Go.IntKind.wrap Go.IntKind.i64 (Int.tmod (Go.IntKind.wrap Go.IntKind.u64 (List.getD xs 12 0)) 32))
                                                                                                    (
                                                                                                    ((
                                                                                                      True) ∧ (
                                                                                                      ∀ y17, (
                                                                                                        ((y17 = Go.Rx.v39_0 [List.getD y11 0 0, List.getD y11 1 0, List.getD y11 2 0, List.getD y11 3 0, List.getD y11 4 0, List.getD y11 5 0, List.getD y11 6 0, List.getD y11 7 0, List.getD y11 8 0, List.getD y11 9 0, List.getD y11 10 0, List.getD y11 11 0, List.getD y11 12 0, List.getD y11 13 0, List.getD y11 14 0, List.getD y11 15 0, List.getD y11 16 0, List.getD y11 17 0, List.getD y11 18 0, List.getD y11 19 0, List.getD y11 20 0, List.getD y11 21 0, List.getD y11 22 0, Go.IntKind.wrap Go.IntKind.i64 (y12 + Go.IntKind.wrap Go.IntKind.i64 (Int.tmod (Go.IntKind.wrap Go.IntKind.u64 (List.getD xs 12 0)) 32))]) → (
                                                                                                          ((
                                                                                                            True) ∧ (
                                                                                                            ∀ y18, (
                                                                                                              ((y18 = Go.Rx.v39_0 [List.getD y11 0 0, List.getD y11 1 0, List.getD y11 2 0, List.getD y11 3 0, List.getD y11 4 0, List.getD y11 5 0, List.getD y11 6 0, List.getD y11 7 0, List.getD y11 8 0, List.getD y11 9 0, List.getD y11 10 0, List.getD y11 11 0, List.getD y11 12 0, List.getD y11 13 0, List.getD y11 14 0, List.getD y11 15 0, List.getD y11 16 0, List.getD y11 17 0, List.getD y11 18 0, List.getD y11 19 0, List.getD y11 20 0, List.getD y11 21 0, List.getD y11 22 0, y12]) → (
                                                                                                                br (y17 == Go.IntKind.wrap Go.IntKind.i64 (y18 + Go.IntKind.wrap Go.IntKind.i64 (Int.tmod (Go.IntKind.wrap Go.IntKind.u64 (List.getD xs 12 0)) 32)))
                                                                                                                  (
                                                                                                                  ((
                                                                                                                    True) ∧ (
                                                                                                                    ∀ y19, (
                                                                                                                      ((y19 = Go.Rx.v15_0 [List.getD y11 0 0, List.getD y11 1 0, List.getD y11 2 0, List.getD y11 3 0, List.getD y11 4 0, List.getD y11 5 0, List.getD y11 6 0, List.getD y11 7 0, List.getD y11 8 0, List.getD y11 9 0, List.getD y11 10 0, List.getD y11 11 0, List.getD y11 12 0, List.getD y11 13 0, List.getD y11 14 0, List.getD y11 15 0, List.getD y11 16 0, List.getD y11 17 0, List.getD y11 18 0, List.getD y11 19 0, List.getD y11 20 0, List.getD y11 21 0, List.getD y11 22 0]) → (
                                                                                                                        br (Decidable.decide (Go.IntKind.wrap Go.IntKind.i64 (y12 + Go.IntKind.wrap Go.IntKind.i64 (Int.tmod (Go.IntKind.wrap Go.IntKind.u64 (List.getD xs 12 0)) 32)) < y19))
                                                                                                                          (
                                                                                                                          ((
                                                                                                                            True) ∧ (
                                                                                                                            K (vb (Bool.true)) [])))
                                                                                                                          (
                                                                                                                          K (vb (Bool.false)) [])))))))
                                                                                                                  (
                                                                                                                  K (vb (Bool.false)) []))))))))))))
                                                                                                    (
                                                                                                    K (vb (Bool.false)) []))
                                                                                                  (
                                                                                                  K (vb (Bool.false)) []))
                                                                                                (
                                                                                                K (vb (Bool.false)) [])))))))))
                                                                                    (
                                                                                    ((
                                                                                      True) ∧ (
                                                                                      ∀ y20, (
                                                                                        ((y20 = Go.Rx.v38_0 [List.getD y11 0 0, List.getD y11 1 0, List.getD y11 2 0, List.getD y11 3 0, List.getD y11 4 0, List.getD y11 5 0, List.getD y11 6 0, List.getD y11 7 0, List.getD y11 8 0, List.getD y11 9 0, List.getD y11 10 0, List.getD y11 11 0, List.getD y11 12 0, List.getD y11 13 0, List.getD y11 14 0, List.getD y11 15 0, List.getD y11 16 0, List.getD y11 17 0, List.getD y11 18 0, List.getD y11 19 0, List.getD y11 20 0, List.getD y11 21 0, List.getD y11 22 0]) → (
                                                                                          br (Decidable.decide (y12 < y20))
                                                                                            (
                                                                                            K (vb (Bool.false)) [])
                                                                                            (
                                                                                            br (y15)
                                                                                              (
                                                                                              br (y13 == Go.IntKind.wrap Go.IntKind.i64 (Int.tmod (Go.IntKind.wrap Go.IntKind.u64 (List.getD xs 11 0)) (Go.IntKind.wrap Go.IntKind.u64 y2)))
                                                                                                (
                                                                                                br (y14 == Go.IntKind.wrap Go.IntKind.i64 (Int.tmod (Go.IntKind.wrap Go.IntKind.u64 (List.getD xs 12 0)) 32))
                                                                                                  (
                                                                                                  ((
                                                                                                    True) ∧ (
                                                                                                    ∀ y21, (
                                                                                                      ((y21 = Go.Rx.v39_0 [List.getD y11 0 0, List.getD y11 1 0, List.getD y11 2 0, List.getD y11 3 0, List.getD y11 4 0, List.getD y11 5 0, List.getD y11 6 0, List.getD y11 7 0, List.getD y11 8 0, List.getD y11 9 0, List.getD y11 10 0, List.getD y11 11 0, List.getD y11 12 0, List.getD y11 13 0, List.getD y11 14 0, List.getD y11 15 0, List.getD y11 16 0, List.getD y11 17 0, List.getD y11 18 0, List.getD y11 19 0, List.getD y11 20 0, List.getD y11 21 0, List.getD y11 22 0, Go.IntKind.wrap Go.IntKind.i64 (y12 + Go.IntKind.wrap Go.IntKind.i64 (Int.tmod (Go.IntKind.wrap Go.IntKind.u64 (List.getD xs 12 0)) 32))]) → (
                                                                                                        ((
                                                                                                          True) ∧ (
                                                                                                          ∀ y22, (
                                                                                                            ((y22 = Go.Rx.v39_0 [List.getD y11 0 0, List.getD y11 1 0, List.getD y11 2 0, List.getD y11 3 0, List.getD y11 4 0, List.getD y11 5 0, List.getD y11 6 0, List.getD y11 7 0, List.getD y11 8 0, List.getD y11 9 0, List.getD y11 10 0, List.getD y11 11 0, List.getD y11 12 0, List.getD y11 13 0, List.getD y11 14 0, List.getD y11 15 0, List.getD y11 16 0, List.getD y11 17 0, List.getD y11 18 0, List.getD y11 19 0, List.getD y11 20 0, List.getD y11 21 0, List.getD y11 22 0, y12]) → (
                                                                                                              br (y21 == Go.IntKind.wrap Go.IntKind.i64 (y22 + Go.IntKind.wrap Go.IntKind.i64 (Int.tmod (Go.IntKind.wrap Go.IntKind.u64 (List.getD xs 12 0)) 32)))
                                                                                                                (
                                                                                                                ((
                                                                                                                  True) ∧ (
                                                                                                                  ∀ y23, (
                                                                                                                    ((y23 = Go.Rx.v15_0 [List.getD y11 0 0, List.getD y11 1 0, List.getD y11 2 0, List.getD y11 3 0, List.getD y11 4 0, List.getD y11 5 0, List.getD y11 6 0, List.getD y11 7 0, List.getD y11 8 0, List.getD y11 9 0, List.getD y11 10 0, List.getD y11 11 0, List.getD y11 12 0, List.getD y11 13 0, List.getD y11 14 0, List.getD y11 15 0, List.getD y11 16 0, List.getD y11 17 0, List.getD y11 18 0, List.getD y11 19 0, List.getD y11 20 0, List.getD y11 21 0, List.getD y11 22 0]) → (
                                                                                                                      br (Decidable.decide (Go.IntKind.wrap Go.IntKind.i64 (y12 + Go.IntKind.wrap Go.IntKind.i64 (Int.tmod (Go.IntKind.wrap Go.IntKind.u64 (List.getD xs 12 0)) 32)) < y23))
                                                                                                                        (
                                                                                                                        ((
                                                                                                                          True) ∧ (
                                                                                                                          K (vb (Bool.true)) [])))
                                                                                                                        (
                                                                                                                        K (vb (Bool.false)) [])))))))
                                                                                                                (
                                                                                                                K (vb (Bool.false)) []))))))))))))
                                                                                                  (
                                                                                                  K (vb (Bool.false)) []))
                                                                                                (
                                                                                                K (vb (Bool.false)) []))
                                                                                              (
                                                                                              K (vb (Bool.false)) [])))))))))))))))))))))))))))))))) ∧ (
                                                    ((Go.Rx.rightM [y0, y1, y2, y3, y4, y5, y6, y7, y8, y9, y10] = Bool.false) → (
                                                      Req (!Go.IntKind.wrap Go.IntKind.u64 y2 == 0)
                                                        (
                                                        ((
                                                          True) ∧ (
                                                          ∀ y24, (
                                                            ((y24 = Go.Rx.v34_0 [List.getD (Go.Rx.zer 23) 0 0, List.getD (Go.Rx.zer 23) 1 0, List.getD (Go.Rx.zer 23) 2 0, List.getD (Go.Rx.zer 23) 3 0, List.getD (Go.Rx.zer 23) 4 0, List.getD (Go.Rx.zer 23) 5 0, List.getD (Go.Rx.zer 23) 6 0, List.getD (Go.Rx.zer 23) 7 0, List.getD (Go.Rx.zer 23) 8 0, List.getD (Go.Rx.zer 23) 9 0, List.getD (Go.Rx.zer 23) 10 0, List.getD (Go.Rx.zer 23) 11 0, List.getD (Go.Rx.zer 23) 12 0, List.getD (Go.Rx.zer 23) 13 0, List.getD (Go.Rx.zer 23) 14 0, List.getD (Go.Rx.zer 23) 15 0, List.getD (Go.Rx.zer 23) 16 0, List.getD (Go.Rx.zer 23) 17 0, List.getD (Go.Rx.zer 23) 18 0, List.getD (Go.Rx.zer 23) 19 0, List.getD (Go.Rx.zer 23) 20 0, List.getD (Go.Rx.zer 23) 21 0, List.getD (Go.Rx.zer 23) 22 0, Go.IntKind.wrap Go.IntKind.i64 (Int.tmod (Go.IntKind.wrap Go.IntKind.u64 (List.getD xs 11 0)) (Go.IntKind.wrap Go.IntKind.u64 y2))]) → (
                                                              ((
                                                                True) ∧ (
                                                                ∀ y25, (
                                                                  ∀ y26, (
                                                                    ∀ y27, (
                                                                      ((y25 = Go.Rx.v37_0 [List.getD (Go.Rx.zer 23) 0 0, List.getD (Go.Rx.zer 23) 1 0, List.getD (Go.Rx.zer 23) 2 0, List.getD (Go.Rx.zer 23) 3 0, List.getD (Go.Rx.zer 23) 4 0, List.getD (Go.Rx.zer 23) 5 0, List.getD (Go.Rx.zer 23) 6 0, List.getD (Go.Rx.zer 23) 7 0, List.getD (Go.Rx.zer 23) 8 0, List.getD (Go.Rx.zer 23) 9 0, List.getD (Go.Rx.zer 23) 10 0, List.getD (Go.Rx.zer 23) 11 0, List.getD (Go.Rx.zer 23) 12 0, List.getD (Go.Rx.zer 23) 13 0, List.getD (Go.Rx.zer 23) 14 0, List.getD (Go.Rx.zer 23) 15 0, List.getD (Go.Rx.zer 23) 16 0, List.getD (Go.Rx.zer 23) 17 0, List.getD (Go.Rx.zer 23) 18 0, List.getD (Go.Rx.zer 23) 19 0, List.getD (Go.Rx.zer 23) 20 0, List.getD (Go.Rx.zer 23) 21 0, List.getD (Go.Rx.zer 23) 22 0, Go.IntKind.wrap Go.IntKind.i64 (y24 + Go.IntKind.wrap Go.IntKind.i64 (Int.tmod (Go.IntKind.wrap Go.IntKind.u64 (List.getD xs 12 0)) 32))]) → (
                                                                        ((y26 = Go.Rx.v37_1 [List.getD (Go.Rx.zer 23) 0 0, List.getD (Go.Rx.zer 23) 1 0, List.getD (Go.Rx.zer 23) 2 0, List.getD (Go.Rx.zer 23) 3 0, List.getD (Go.Rx.zer 23) 4 0, List.getD (Go.Rx.zer 23) 5 0, List.getD (Go.Rx.zer 23) 6 0, List.getD (Go.Rx.zer 23) 7 0, List.getD (Go.Rx.zer 23) 8 0, List.getD (Go.Rx.zer 23) 9 0, List.getD (Go.Rx.zer 23) 10 0, List.getD (Go.Rx.zer 23) 11 0, List.getD (Go.Rx.zer 23) 12 0, List.getD (Go.Rx.zer 23) 13 0, List.getD (Go.Rx.zer 23) 14 0, List.getD (Go.Rx.zer 23) 15 0, List.getD (Go.Rx.zer 23) 16 0, List.getD (Go.Rx.zer 23) 17 0, List.getD (Go.Rx.zer 23) 18 0, List.getD (Go.Rx.zer 23) 19 0, List.getD (Go.Rx.zer 23) 20 0, List.getD (Go.Rx.zer 23) 21 0, List.getD (Go.Rx.zer 23) 22 0, Go.IntKind.wrap Go.IntKind.i64 (y24 + Go.IntKind.wrap Go.IntKind.i64 (Int.tmod (Go.IntKind.wrap Go.IntKind.u64 (List.getD xs 12 0)) 32))]) → (
                                                                          ((y27 = Go.Rx.v37_2 [List.getD (Go.Rx.zer 23) 0 0, List.getD (Go.Rx.zer 23) 1 0, List.getD (Go.Rx.zer 23) 2 0, List.getD (Go.Rx.zer 23) 3 0, List.getD (Go.Rx.zer 23) 4 0, List.getD (Go.Rx.zer 23) 5 0, List.getD (Go.Rx.zer 23) 6 0, List.getD (Go.Rx.zer 23) 7 0, List.getD (Go.Rx.zer 23) 8 0, List.getD (Go.Rx.zer 23) 9 0, List.getD (Go.Rx.zer 23) 10 0, List.getD (Go.Rx.zer 23) 11 0, List.getD (Go.Rx.zer 23) 12 0, List.getD (Go.Rx.zer 23) 13 0, List.getD (Go.Rx.zer 23) 14 0, List.getD (Go.Rx.zer 23) 15 0, List.getD (Go.Rx.zer 23) 16 0, List.getD (Go.Rx.zer 23) 17 0, List.getD (Go.Rx.zer 23) 18 0, List.getD (Go.Rx.zer 23) 19 0, List.getD (Go.Rx.zer 23) 20 0, List.getD (Go.Rx.zer 23) 21 0, List.getD (Go.Rx.zer 23) 22 0, Go.IntKind.wrap Go.IntKind.i64 (y24 + Go.IntKind.wrap Go.IntKind.i64 (Int.tmod (Go.IntKind.wrap Go.IntKind.u64 (List.getD xs 12 0)) 32))]) → (
                                                                            K (vb (Bool.false)) []))))))))))))))))))))))))))))))))))))))))))))))))))))))))) := by
  kernel_rfl

end Go.Rx
