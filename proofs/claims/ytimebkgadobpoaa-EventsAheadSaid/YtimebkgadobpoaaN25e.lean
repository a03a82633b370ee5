/- Normal forms of the program's code (by a program of this session's; the kernel checks each). -/
import Derived.Test.YtimebkgadobpoaaC25e
namespace Go.Rx
open Go.Proofs
set_option maxRecDepth 100000
theorem nf11 (K : V → Heap → Prop) : (exF cfg11 Try.f11 [] [] K) = (
    ((
      (Nat.le 2 1048576)) ∧ (
      ((
        ((
          (Nat.le 2 1048576)) ∧ (
          ((
            (Nat.le (List.length (Go.Rx.posM (Go.Rx.pendM 8) [Go.Rx.Ev.mk 0 0 0 0 0 0 0 0 0 0 0 0 0 0 0 0 0 3 9 0 Bool.false Bool.true Bool.true, Go.Rx.Ev.mk 0 0 0 0 0 0 0 0 0 0 0 0 0 0 0 0 0 10 0 0 Bool.false Bool.false Bool.false])) 1048576)) ∧ (
            ((
              (Nat.le 2 1048576)) ∧ (
              ((
                (Nat.le 2 1048576)) ∧ (
                K (vb (Go.Rx.lastM [Go.Rx.Ev.mk 0 0 0 0 0 0 0 0 0 0 0 0 0 0 0 0 0 3 9 0 Bool.false Bool.true Bool.true, Go.Rx.Ev.mk 0 0 0 0 0 0 0 0 0 0 0 0 0 0 0 0 0 10 0 0 Bool.false Bool.false Bool.false] == 10)) []))))))))) ∧ (
        ((
          (Nat.le 2 1048576)) ∧ (
          ((
            (Nat.le (List.length (Go.Rx.posM (Go.Rx.pendM 8) [Go.Rx.Ev.mk 0 0 0 0 0 0 0 0 0 0 0 0 0 0 0 0 0 3 9 0 Bool.false Bool.true Bool.true, Go.Rx.Ev.mk 0 0 0 0 0 0 0 0 0 0 0 0 0 0 0 0 0 10 0 0 Bool.false Bool.false Bool.false])) 1048576)) ∧ (
            ((
              (Nat.le 2 1048576)) ∧ (
              ((
                (Nat.le 2 1048576)) ∧ (
                K (vb (Go.Rx.lastM [Go.Rx.Ev.mk 0 0 0 0 0 0 0 0 0 0 0 0 0 0 0 0 0 3 9 0 Bool.false Bool.true Bool.true, Go.Rx.Ev.mk 0 0 0 0 0 0 0 0 0 0 0 0 0 0 0 0 0 10 0 0 Bool.false Bool.false Bool.false] == 10)) []))))))))))))) := by
  kernel_rfl

theorem nf3 (w : Int) (l : List Ev) (K : V → Heap → Prop) : (exF cfg3 Try.f3 [vi w, .row 0] [.row 3 l true] K) = (
    br (Decidable.decide ((↑(List.length l) : Int) > 60))
      (
      K (vb (Bool.true)) [.row 3 (l : List Go.Rx.Ev) Bool.true])
      (
      ((
        (Nat.le (List.length l) 1048576)) ∧ (
        ((
          (Nat.le (List.length l) 1048576)) ∧ (
          br (Go.Rx.rightB w l == Go.Rx.rightB w l)
            (
            K (vb (Bool.true)) [.row 3 (l : List Go.Rx.Ev) Bool.true])
            (
            K (vb (Bool.false)) [.row 3 (l : List Go.Rx.Ev) Bool.true]))))))) := by
  kernel_rfl

theorem nf5 (a b c : Ev) (K : V → Heap → Prop) : (exF cfg5 Try.f5 [evV a, evV b, evV c] [] K) = (
    br (Go.Rx.Ev.Done a)
      (
      br (Decidable.decide (Go.Rx.Ev.End a ≤ Go.Rx.Ev.Begin a))
        (
        K (vb (Bool.true)) [])
        (
        br (Go.Rx.Ev.Done b)
          (
          br (Decidable.decide (Go.Rx.Ev.End b ≤ Go.Rx.Ev.Begin b))
            (
            K (vb (Bool.true)) [])
            (
            br (Go.Rx.Ev.Done c)
              (
              br (Decidable.decide (Go.Rx.Ev.End c ≤ Go.Rx.Ev.Begin c))
                (
                K (vb (Bool.true)) [])
                (
                br (Go.Rx.aheadM a a)
                  (
                  K (vb (Bool.false)) [])
                  (
                  br (Go.Rx.aheadM a b)
                    (
                    br (Go.Rx.aheadM b a)
                      (
                      K (vb (Bool.false)) [])
                      (
                      br (!Go.Rx.aheadM a b)
                        (
                        K (vb (Bool.true)) [])
                        (
                        br (!Go.Rx.aheadM b c)
                          (
                          K (vb (Bool.true)) [])
                          (
                          br (Go.Rx.aheadM a c)
                            (
                            K (vb (Bool.true)) [])
                            (
                            K (vb (Bool.false)) [])))))
                    (
                    br (!Go.Rx.aheadM a b)
                      (
                      K (vb (Bool.true)) [])
                      (
                      br (!Go.Rx.aheadM b c)
                        (
                        K (vb (Bool.true)) [])
                        (
                        br (Go.Rx.aheadM a c)
                          (
                          K (vb (Bool.true)) [])
                          (
                          K (vb (Bool.false)) [])))))))
              (
              br (Go.Rx.aheadM a a)
                (
                K (vb (Bool.false)) [])
                (
                br (Go.Rx.aheadM a b)
                  (
                  br (Go.Rx.aheadM b a)
                    (
                    K (vb (Bool.false)) [])
                    (
                    br (!Go.Rx.aheadM a b)
                      (
                      K (vb (Bool.true)) [])
                      (
                      br (!Go.Rx.aheadM b c)
                        (
                        K (vb (Bool.true)) [])
                        (
                        br (Go.Rx.aheadM a c)
                          (
                          K (vb (Bool.true)) [])
                          (
                          K (vb (Bool.false)) [])))))
                  (
                  br (!Go.Rx.aheadM a b)
                    (
                    K (vb (Bool.true)) [])
                    (
                    br (!Go.Rx.aheadM b c)
                      (
                      K (vb (Bool.true)) [])
                      (
                      br (Go.Rx.aheadM a c)
                        (
                        K (vb (Bool.true)) [])
                        (
                        K (vb (Bool.false)) []))))))))
          (
          br (Go.Rx.Ev.Done c)
            (
            br (Decidable.decide (Go.Rx.Ev.End c ≤ Go.Rx.Ev.Begin c))
              (
              K (vb (Bool.true)) [])
              (
              br (Go.Rx.aheadM a a)
                (
                K (vb (Bool.false)) [])
                (
                br (Go.Rx.aheadM a b)
                  (
                  br (Go.Rx.aheadM b a)
                    (
                    K (vb (Bool.false)) [])
                    (
                    br (!Go.Rx.aheadM a b)
                      (
                      K (vb (Bool.true)) [])
                      (
                      br (!Go.Rx.aheadM b c)
                        (
                        K (vb (Bool.true)) [])
                        (
                        br (Go.Rx.aheadM a c)
                          (
                          K (vb (Bool.true)) [])
                          (
                          K (vb (Bool.false)) [])))))
                  (
                  br (!Go.Rx.aheadM a b)
                    (
                    K (vb (Bool.true)) [])
                    (
                    br (!Go.Rx.aheadM b c)
                      (
                      K (vb (Bool.true)) [])
                      (
                      br (Go.Rx.aheadM a c)
                        (
                        K (vb (Bool.true)) [])
                        (
                        K (vb (Bool.false)) [])))))))
            (
            br (Go.Rx.aheadM a a)
              (
              K (vb (Bool.false)) [])
              (
              br (Go.Rx.aheadM a b)
                (
                br (Go.Rx.aheadM b a)
                  (
                  K (vb (Bool.false)) [])
                  (
                  br (!Go.Rx.aheadM a b)
                    (
                    K (vb (Bool.true)) [])
                    (
                    br (!Go.Rx.aheadM b c)
                      (
                      K (vb (Bool.true)) [])
                      (
                      br (Go.Rx.aheadM a c)
                        (
                        K (vb (Bool.true)) [])
                        (
                        K (vb (Bool.false)) [])))))
                (
                br (!Go.Rx.aheadM a b)
                  (
                  K (vb (Bool.true)) [])
                  (
                  br (!Go.Rx.aheadM b c)
                    (
                    K (vb (Bool.true)) [])
                    (
                    br (Go.Rx.aheadM a c)
                      (
                      K (vb (Bool.true)) [])
                      (
                      K (vb (Bool.false)) [])))))))))
      (
      br (Go.Rx.Ev.Done b)
        (
        br (Decidable.decide (Go.Rx.Ev.End b ≤ Go.Rx.Ev.Begin b))
          (
          K (vb (Bool.true)) [])
          (
          br (Go.Rx.Ev.Done c)
            (
            br (Decidable.decide (Go.Rx.Ev.End c ≤ Go.Rx.Ev.Begin c))
              (
              K (vb (Bool.true)) [])
              (
              br (Go.Rx.aheadM a a)
                (
                K (vb (Bool.false)) [])
                (
                br (Go.Rx.aheadM a b)
                  (
                  br (Go.Rx.aheadM b a)
                    (
                    K (vb (Bool.false)) [])
                    (
                    br (!Go.Rx.aheadM a b)
                      (
                      K (vb (Bool.true)) [])
                      (
                      br (!Go.Rx.aheadM b c)
                        (
                        K (vb (Bool.true)) [])
                        (
                        br (Go.Rx.aheadM a c)
                          (
                          K (vb (Bool.true)) [])
                          (
                          K (vb (Bool.false)) [])))))
                  (
                  br (!Go.Rx.aheadM a b)
                    (
                    K (vb (Bool.true)) [])
                    (
                    br (!Go.Rx.aheadM b c)
                      (
                      K (vb (Bool.true)) [])
                      (
                      br (Go.Rx.aheadM a c)
                        (
                        K (vb (Bool.true)) [])
                        (
                        K (vb (Bool.false)) [])))))))
            (
            br (Go.Rx.aheadM a a)
              (
              K (vb (Bool.false)) [])
              (
              br (Go.Rx.aheadM a b)
                (
                br (Go.Rx.aheadM b a)
                  (
                  K (vb (Bool.false)) [])
                  (
                  br (!Go.Rx.aheadM a b)
                    (
                    K (vb (Bool.true)) [])
                    (
                    br (!Go.Rx.aheadM b c)
                      (
                      K (vb (Bool.true)) [])
                      (
                      br (Go.Rx.aheadM a c)
                        (
                        K (vb (Bool.true)) [])
                        (
                        K (vb (Bool.false)) [])))))
                (
                br (!Go.Rx.aheadM a b)
                  (
                  K (vb (Bool.true)) [])
                  (
                  br (!Go.Rx.aheadM b c)
                    (
                    K (vb (Bool.true)) [])
                    (
                    br (Go.Rx.aheadM a c)
                      (
                      K (vb (Bool.true)) [])
                      (
                      K (vb (Bool.false)) []))))))))
        (
        br (Go.Rx.Ev.Done c)
          (
          br (Decidable.decide (Go.Rx.Ev.End c ≤ Go.Rx.Ev.Begin c))
            (
            K (vb (Bool.true)) [])
            (
            br (Go.Rx.aheadM a a)
              (
              K (vb (Bool.false)) [])
              (
              br (Go.Rx.aheadM a b)
                (
                br (Go.Rx.aheadM b a)
                  (
                  K (vb (Bool.false)) [])
                  (
                  br (!Go.Rx.aheadM a b)
                    (
                    K (vb (Bool.true)) [])
                    (
                    br (!Go.Rx.aheadM b c)
                      (
                      K (vb (Bool.true)) [])
                      (
                      br (Go.Rx.aheadM a c)
                        (
                        K (vb (Bool.true)) [])
                        (
                        K (vb (Bool.false)) [])))))
                (
                br (!Go.Rx.aheadM a b)
                  (
                  K (vb (Bool.true)) [])
                  (
                  br (!Go.Rx.aheadM b c)
                    (
                    K (vb (Bool.true)) [])
                    (
                    br (Go.Rx.aheadM a c)
                      (
                      K (vb (Bool.true)) [])
                      (
                      K (vb (Bool.false)) [])))))))
          (
          br (Go.Rx.aheadM a a)
            (
            K (vb (Bool.false)) [])
            (
            br (Go.Rx.aheadM a b)
              (
              br (Go.Rx.aheadM b a)
                (
                K (vb (Bool.false)) [])
                (
                br (!Go.Rx.aheadM a b)
                  (
                  K (vb (Bool.true)) [])
                  (
                  br (!Go.Rx.aheadM b c)
                    (
                    K (vb (Bool.true)) [])
                    (
                    br (Go.Rx.aheadM a c)
                      (
                      K (vb (Bool.true)) [])
                      (
                      K (vb (Bool.false)) [])))))
              (
              br (!Go.Rx.aheadM a b)
                (
                K (vb (Bool.true)) [])
                (
                br (!Go.Rx.aheadM b c)
                  (
                  K (vb (Bool.true)) [])
                  (
                  br (Go.Rx.aheadM a c)
                    (
                    K (vb (Bool.true)) [])
                    (
                    K (vb (Bool.false)) []))))))))) := by
  kernel_rfl

theorem nf4 (w : Int) (l : List Ev) (n t : Int) (K : V → Heap → Prop) : (exF cfg4 Try.f4 [vi w, .row 0, vi n, vi t] [.row 3 l true] K) = (
    br (Decidable.decide ((↑(List.length l) : Int) > 60))
      (
      K (vb (Bool.true)) [.row 3 (l : List Go.Rx.Ev) Bool.true])
      (
      ((
        (Nat.le (List.length l) 1048576)) ∧ (
        br (!Go.Rx.rightB w l)
          (
          K (vb (Bool.true)) [.row 3 (l : List Go.Rx.Ev) Bool.true])
          (
          Req (!Go.IntKind.wrap Go.IntKind.u64 (Go.IntKind.wrap Go.IntKind.i64 ((↑(List.length l) : Int) + 1)) == 0)
            (
            Req (Decidable.decide (0 ≤ Go.IntKind.wrap Go.IntKind.i64 (Int.tmod (Go.IntKind.wrap Go.IntKind.u64 n) (Go.IntKind.wrap Go.IntKind.u64 (Go.IntKind.wrap Go.IntKind.i64 ((↑(List.length l) : Int) + 1)))) ∧ Go.IntKind.wrap Go.IntKind.i64 (Int.tmod (Go.IntKind.wrap Go.IntKind.u64 n) (Go.IntKind.wrap Go.IntKind.u64 (Go.IntKind.wrap Go.IntKind.i64 ((↑(List.length l) : Int) + 1)))) ≤ (↑(List.length l) : Int)))
              (
              Req (Decidable.decide (0 + Int.toNat (Go.IntKind.wrap Go.IntKind.i64 (Int.tmod (Go.IntKind.wrap Go.IntKind.u64 n) (Go.IntKind.wrap Go.IntKind.u64 (Go.IntKind.wrap Go.IntKind.i64 ((↑(List.length l) : Int) + 1))))) ≤ List.length l))
                (
                ((
                  (Nat.le (List.length (List.take (Int.toNat (Go.IntKind.wrap Go.IntKind.i64 (Int.tmod (Go.IntKind.wrap Go.IntKind.u64 n) (Go.IntKind.wrap Go.IntKind.u64 (Go.IntKind.wrap Go.IntKind.i64 ((↑(List.length l) : Int) + 1)))))) (List.drop 0 l))) 1048576)) ∧ (
                  br (!Go.Rx.rightB w (List.take (Int.toNat (Go.IntKind.wrap Go.IntKind.i64 (Int.tmod (Go.IntKind.wrap Go.IntKind.u64 n) (Go.IntKind.wrap Go.IntKind.u64 (Go.IntKind.wrap Go.IntKind.i64 ((↑(List.length l) : Int) + 1)))))) (List.drop 0 l)))
                    (
                    K (vb (Bool.false)) [.row 3 (l : List Go.Rx.Ev) Bool.true])
                    (
                    ((
                      (Nat.le (List.length l) 1048576)) ∧ (
                      Loop cfg4 (⟨100, 1⟩ : Cx) (at_ (bodyOf Try.f4) [1, 1, 1, 1, 1, 0, 1, 0, 0])  (mkEnv [(1, .row 0), (9, .row 1), (10, vi (0))]) [.row 3 (l : List Go.Rx.Ev) Bool.true, .row 0 (Go.Rx.posM (Go.Rx.pendM t) l : List Int) Bool.false] (contK cfg4 (⟨100, 1⟩ : Cx) (bodyOf Try.f4) [1, 1, 1, 1, 1, 0, 1, 0] (retK cfg4 Try.f4 1 K))))))))))))))) := by
  kernel_rfl

theorem nf4r (w : Int) (l : List Ev) (n t : Int) (p : List Int) (i : Int) (K : V → Heap → Prop) (J : Env → Heap → Prop) : (ex cfg4 (⟨100, 1⟩ : Cx) (at_ (bodyOf Try.f4) [1, 1, 1, 1, 1, 0, 1, 0, 0]) (mkEnv [(1, .row 0), (9, .row 1), (10, vi i)]) [.row 3 l true, .row 0 p false] (roundK cfg4 (⟨100, 1⟩ : Cx) (at_ (bodyOf Try.f4) [1, 1, 1, 1, 1, 0, 1, 0, 0]) (contK cfg4 (⟨100, 1⟩ : Cx) (bodyOf Try.f4) [1, 1, 1, 1, 1, 0, 1, 0] (retK cfg4 Try.f4 1 K)) J)) = (
    br (Decidable.decide (i < (↑(List.length p) : Int)))
      (
      Loop cfg4 (⟨100, 1⟩ : Cx) (at_ (bodyOf Try.f4) [1, 1, 1, 1, 1, 0, 1, 0, 0, 1, 0, 0, 1, 0, 0])  (mkEnv [(1, .row 0), (9, .row 1), (10, vi (i)), (11, vi (0))]) [.row 3 (l : List Go.Rx.Ev) Bool.true, .row 0 (p : List Int) Bool.false] (contK cfg4 (⟨100, 1⟩ : Cx) (at_ (bodyOf Try.f4) [1, 1, 1, 1, 1, 0, 1, 0, 0]) [1, 0, 0, 1, 0] (roundK cfg4 (⟨100, 1⟩ : Cx) (at_ (bodyOf Try.f4) [1, 1, 1, 1, 1, 0, 1, 0, 0]) (contK cfg4 (⟨100, 1⟩ : Cx) (bodyOf Try.f4) [1, 1, 1, 1, 1, 0, 1, 0] (retK cfg4 Try.f4 1 K)) J)))
      (
      K (vb (Bool.true)) [.row 3 (l : List Go.Rx.Ev) Bool.true])) := by
  kernel_rfl

theorem nf4i (w : Int) (l : List Ev) (n t : Int) (p : List Int) (i k : Int) (K : V → Heap → Prop) (J J2 : Env → Heap → Prop) : (ex cfg4 (⟨100, 1⟩ : Cx) (at_ (bodyOf Try.f4) [1, 1, 1, 1, 1, 0, 1, 0, 0, 1, 0, 0, 1, 0, 0]) (mkEnv [(1, .row 0), (9, .row 1), (10, vi i), (11, vi k)]) [.row 3 l true, .row 0 p false] (roundK cfg4 (⟨100, 1⟩ : Cx) (at_ (bodyOf Try.f4) [1, 1, 1, 1, 1, 0, 1, 0, 0, 1, 0, 0, 1, 0, 0]) (contK cfg4 (⟨100, 1⟩ : Cx) (at_ (bodyOf Try.f4) [1, 1, 1, 1, 1, 0, 1, 0, 0]) [1, 0, 0, 1, 0] (roundK cfg4 (⟨100, 1⟩ : Cx) (at_ (bodyOf Try.f4) [1, 1, 1, 1, 1, 0, 1, 0, 0]) (contK cfg4 (⟨100, 1⟩ : Cx) (bodyOf Try.f4) [1, 1, 1, 1, 1, 0, 1, 0] (retK cfg4 Try.f4 1 K)) J)) J2)) = (
    br (Decidable.decide (k < i))
      (
      Req (Go.Rx.inR i (List.length p))
        (
        Req (Go.Rx.inR (Go.Rx.offs i 0) (List.length p))
          (
          br (Decidable.decide (List.getD p (Int.toNat (Go.Rx.offs i 0)) 0 < 0))
            (
            K (vb (Bool.false)) [.row 3 (l : List Go.Rx.Ev) Bool.true])
            (
            Req (Go.Rx.inR i (List.length p))
              (
              Req (Go.Rx.inR (Go.Rx.offs i 0) (List.length p))
                (
                br (Decidable.decide (List.getD p (Int.toNat (Go.Rx.offs i 0)) 0 ≥ (↑(List.length l) : Int)))
                  (
                  K (vb (Bool.false)) [.row 3 (l : List Go.Rx.Ev) Bool.true])
                  (
                  Req (Go.Rx.inR k (List.length p))
                    (
                    Req (Go.Rx.inR (Go.Rx.offs k 0) (List.length p))
                      (
                      br (Decidable.decide (List.getD p (Int.toNat (Go.Rx.offs k 0)) 0 < 0))
                        (
                        K (vb (Bool.false)) [.row 3 (l : List Go.Rx.Ev) Bool.true])
                        (
                        Req (Go.Rx.inR k (List.length p))
                          (
                          Req (Go.Rx.inR (Go.Rx.offs k 0) (List.length p))
                            (
                            br (Decidable.decide (List.getD p (Int.toNat (Go.Rx.offs k 0)) 0 ≥ (↑(List.length l) : Int)))
                              (
                              K (vb (Bool.false)) [.row 3 (l : List Go.Rx.Ev) Bool.true])
                              (
                              Req (Go.Rx.inR i (List.length p))
                                (
                                Req (Go.Rx.inR (Go.Rx.offs i 0) (List.length p))
                                  (
                                  Req (Go.Rx.inR (List.getD p (Int.toNat (Go.Rx.offs i 0)) 0) (List.length l))
                                    (
                                    Req (Go.Rx.inR (Go.Rx.offs (List.getD p (Int.toNat (Go.Rx.offs i 0)) 0) 0) (List.length l))
                                      (
                                      Req (Go.Rx.inR k (List.length p))
                                        (
                                        Req (Go.Rx.inR (Go.Rx.offs k 0) (List.length p))
                                          (
                                          Req (Go.Rx.inR (List.getD p (Int.toNat (Go.Rx.offs k 0)) 0) (List.length l))
                                            (
                                            Req (Go.Rx.inR (Go.Rx.offs (List.getD p (Int.toNat (Go.Rx.offs k 0)) 0) 0) (List.length l))
                                              (
                                              br (Go.Rx.Ev.Worker (List.getD l (Int.toNat (Go.Rx.offs (List.getD p (Int.toNat (Go.Rx.offs i 0)) 0) 0)) Go.Rx.dEv) == Go.Rx.Ev.Worker (List.getD l (Int.toNat (Go.Rx.offs (List.getD p (Int.toNat (Go.Rx.offs k 0)) 0) 0)) Go.Rx.dEv))
                                                (
                                                K (vb (Bool.false)) [.row 3 (l : List Go.Rx.Ev) Bool.true])
                                                (
                                                J2 (mkEnv [(1, .row 0), (9, .row 1), (10, vi (i)), (11, vi (Go.IntKind.wrap Go.IntKind.i64 (k + 1)))]) [.row 3 (l : List Go.Rx.Ev) Bool.true, .row 0 (p : List Int) Bool.false]))))))))))))))))))))))
      (
      J (mkEnv [(1, .row 0), (9, .row 1), (10, vi (Go.IntKind.wrap Go.IntKind.i64 (i + 1)))]) [.row 3 (l : List Go.Rx.Ev) Bool.true, .row 0 (p : List Int) Bool.false])) := by
  kernel_rfl

theorem nf6 (l : List Ev) (t w : Int) (K : V → Heap → Prop) : (exF cfg6 Try.f6 [.row 0, vi t, vi w] [.row 3 l true] K) = (
    br (Decidable.decide ((↑(List.length l) : Int) > 60))
      (
      K (vb (Bool.true)) [.row 3 (l : List Go.Rx.Ev) Bool.true])
      (
      Loop cfg6 (⟨81, 1⟩ : Cx) (at_ (bodyOf Try.f6) [1, 1, 0, 1, 0, 0])  (mkEnv [(0, .row 0), (1, vi (t)), (2, vi (w)), (7, vi (0))]) [.row 3 (l : List Go.Rx.Ev) Bool.true] (contK cfg6 (⟨81, 1⟩ : Cx) (bodyOf Try.f6) [1, 1, 0, 1, 0] (retK cfg6 Try.f6 1 K)))) := by
  kernel_rfl

theorem nf6r (l : List Ev) (t w : Int) (i : Int) (K : V → Heap → Prop) (J : Env → Heap → Prop) : (ex cfg6 (⟨81, 1⟩ : Cx) (at_ (bodyOf Try.f6) [1, 1, 0, 1, 0, 0]) (mkEnv [(0, .row 0), (1, vi t), (2, vi w), (7, vi i)]) [.row 3 l true] (roundK cfg6 (⟨81, 1⟩ : Cx) (at_ (bodyOf Try.f6) [1, 1, 0, 1, 0, 0]) (contK cfg6 (⟨81, 1⟩ : Cx) (bodyOf Try.f6) [1, 1, 0, 1, 0] (retK cfg6 Try.f6 1 K)) J)) = (
    br (Decidable.decide (i < (↑(List.length l) : Int)))
      (
      Loop cfg6 (⟨81, 1⟩ : Cx) (at_ (bodyOf Try.f6) [1, 1, 0, 1, 0, 0, 1, 0, 0, 1, 0, 0])  (mkEnv [(0, .row 0), (1, vi (t)), (2, vi (w)), (7, vi (i)), (8, vi (0))]) [.row 3 (l : List Go.Rx.Ev) Bool.true] (contK cfg6 (⟨81, 1⟩ : Cx) (at_ (bodyOf Try.f6) [1, 1, 0, 1, 0, 0]) [1, 0, 0, 1, 0] (roundK cfg6 (⟨81, 1⟩ : Cx) (at_ (bodyOf Try.f6) [1, 1, 0, 1, 0, 0]) (contK cfg6 (⟨81, 1⟩ : Cx) (bodyOf Try.f6) [1, 1, 0, 1, 0] (retK cfg6 Try.f6 1 K)) J)))
      (
      ((
        (Nat.le (List.length l) 1048576)) ∧ (
        ((
          (Nat.le (List.length l) 1048576)) ∧ (
          ((
            (Nat.le (List.length (Go.Rx.posM (Go.Rx.pendM t) l)) 1048576)) ∧ (
            br (Go.Rx.eqI (Go.Rx.posM (Go.Rx.pendM t) l) (Go.Rx.posM (Go.Rx.pendM t) l))
              (
              ((
                (Nat.le (List.length l) 1048576)) ∧ (
                br (Go.Rx.quietM t l == ((↑(List.length (Go.Rx.posM (Go.Rx.pendM t) l)) : Int) == 0))
                  (
                  ((
                    (Nat.le (List.length l) 1048576)) ∧ (
                    ((
                      (Nat.le (List.length l) 1048576)) ∧ (
                      ((
                        (Nat.le (List.length (Go.Rx.posM (Go.Rx.ofM w) l)) 1048576)) ∧ (
                        br (Go.Rx.eqI (Go.Rx.posM (Go.Rx.ofM w) l) (Go.Rx.posM (Go.Rx.ofM w) l))
                          (
                          ((
                            (Nat.le (List.length l) 1048576)) ∧ (
                            ((
                              (Nat.le (List.length l) 1048576)) ∧ (
                              br (Go.Rx.lastM l == Go.Rx.lastM l)
                                (
                                K (vb (Bool.true)) [.row 3 (l : List Go.Rx.Ev) Bool.true])
                                (
                                K (vb (Bool.false)) [.row 3 (l : List Go.Rx.Ev) Bool.true]))))))
                          (
                          K (vb (Bool.false)) [.row 3 (l : List Go.Rx.Ev) Bool.true]))))))))
                  (
                  K (vb (Bool.false)) [.row 3 (l : List Go.Rx.Ev) Bool.true]))))
              (
              K (vb (Bool.false)) [.row 3 (l : List Go.Rx.Ev) Bool.true]))))))))) := by
  kernel_rfl

theorem nf6i (l : List Ev) (t w : Int) (i k : Int) (K : V → Heap → Prop) (J J2 : Env → Heap → Prop) : (ex cfg6 (⟨81, 1⟩ : Cx) (at_ (bodyOf Try.f6) [1, 1, 0, 1, 0, 0, 1, 0, 0, 1, 0, 0]) (mkEnv [(0, .row 0), (1, vi t), (2, vi w), (7, vi i), (8, vi k)]) [.row 3 l true] (roundK cfg6 (⟨81, 1⟩ : Cx) (at_ (bodyOf Try.f6) [1, 1, 0, 1, 0, 0, 1, 0, 0, 1, 0, 0]) (contK cfg6 (⟨81, 1⟩ : Cx) (at_ (bodyOf Try.f6) [1, 1, 0, 1, 0, 0]) [1, 0, 0, 1, 0] (roundK cfg6 (⟨81, 1⟩ : Cx) (at_ (bodyOf Try.f6) [1, 1, 0, 1, 0, 0]) (contK cfg6 (⟨81, 1⟩ : Cx) (bodyOf Try.f6) [1, 1, 0, 1, 0] (retK cfg6 Try.f6 1 K)) J)) J2)) = (
    br (Decidable.decide (k < (↑(List.length l) : Int)))
      (
      Req (Go.Rx.inR i (List.length l))
        (
        Req (Go.Rx.inR (Go.Rx.offs i 0) (List.length l))
          (
          Req (Go.Rx.inR k (List.length l))
            (
            Req (Go.Rx.inR (Go.Rx.offs k 0) (List.length l))
              (
              Req (Go.Rx.inR i (List.length l))
                (
                Req (Go.Rx.inR (Go.Rx.offs i 0) (List.length l))
                  (
                  Req (Go.Rx.inR k (List.length l))
                    (
                    Req (Go.Rx.inR (Go.Rx.offs k 0) (List.length l))
                      (
                      br (!Go.Rx.aheadM (List.getD l (Int.toNat (Go.Rx.offs i 0)) Go.Rx.dEv) (List.getD l (Int.toNat (Go.Rx.offs k 0)) Go.Rx.dEv) == Go.Rx.aheadM (List.getD l (Int.toNat (Go.Rx.offs i 0)) Go.Rx.dEv) (List.getD l (Int.toNat (Go.Rx.offs k 0)) Go.Rx.dEv))
                        (
                        K (vb (Bool.false)) [.row 3 (l : List Go.Rx.Ev) Bool.true])
                        (
                        J2 (mkEnv [(0, .row 0), (1, vi (t)), (2, vi (w)), (7, vi (i)), (8, vi (Go.IntKind.wrap Go.IntKind.i64 (k + 1)))]) [.row 3 (l : List Go.Rx.Ev) Bool.true]))))))))))
      (
      J (mkEnv [(0, .row 0), (1, vi (t)), (2, vi (w)), (7, vi (Go.IntKind.wrap Go.IntKind.i64 (i + 1)))]) [.row 3 (l : List Go.Rx.Ev) Bool.true])) := by
  kernel_rfl

end Go.Rx
