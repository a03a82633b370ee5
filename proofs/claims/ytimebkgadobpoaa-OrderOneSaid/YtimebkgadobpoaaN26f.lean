/- Normal forms of the program's code (by a program of this session's; the kernel checks each). -/
import Derived.Test.YtimebkgadobpoaaC26f
namespace Go.Rx
open Go.Proofs
set_option maxRecDepth 100000
theorem nf24  (K : V → Heap → Prop) : (exF cfg24 Try.f24 [] [] K) = (
    ((
      (Nat.le 3 100000)) ∧ (
      ((
        (Nat.le (List.length (Go.Rx.sortM [Go.Rx.Ev.mk 0 0 0 0 0 0 0 0 0 0 0 0 0 0 0 0 0 0 0 5 Bool.true Bool.true Bool.false, Go.Rx.Ev.mk 0 0 0 0 0 0 0 0 0 0 0 0 0 0 0 0 0 0 0 5 Bool.false Bool.true Bool.false, Go.Rx.Ev.mk 0 0 0 0 0 0 0 0 0 0 0 0 0 0 0 0 0 0 0 3 Bool.false Bool.true Bool.false])) 1048576)) ∧ (
        ((
          (Nat.le 3 100000)) ∧ (
          ((
            (Nat.le 3 100000)) ∧ (
            ((
              (Nat.le 3 100000)) ∧ (
              ((
                (Nat.le 1 100000)) ∧ (
                K (vb (Go.Rx.checkM [Go.Rx.Ev.mk 0 0 0 0 0 0 0 0 0 0 0 0 0 0 0 0 0 0 0 5 Bool.true Bool.true Bool.false, Go.Rx.Ev.mk 0 0 0 0 0 0 0 0 0 0 0 0 0 0 0 0 0 0 0 5 Bool.false Bool.true Bool.false, Go.Rx.Ev.mk 0 0 0 0 0 0 0 0 0 0 0 0 0 0 0 0 0 0 0 3 Bool.false Bool.true Bool.false] [3] == 2)) []))))))))))))) := by
  kernel_rfl

theorem nf10 (a b c : Ev) (K : V → Heap → Prop) : (exF cfg10 Try.f10 [evV a, evV b, evV c] [] K) = (
    br (Go.Rx.lessM a b)
      (
      br (!Go.Rx.lessM b a)
        (
        br (!Go.Rx.lessM a a)
          (
          br (!Go.Rx.lessM a b)
            (
            K (vb (Bool.true)) [])
            (
            br (!Go.Rx.lessM b c)
              (
              K (vb (Bool.true)) [])
              (
              br (Go.Rx.lessM a c)
                (
                K (vb (Bool.true)) [])
                (
                K (vb (Bool.false)) []))))
          (
          K (vb (Bool.false)) []))
        (
        K (vb (Bool.false)) []))
      (
      br (!Go.Rx.lessM a a)
        (
        br (!Go.Rx.lessM a b)
          (
          K (vb (Bool.true)) [])
          (
          br (!Go.Rx.lessM b c)
            (
            K (vb (Bool.true)) [])
            (
            br (Go.Rx.lessM a c)
              (
              K (vb (Bool.true)) [])
              (
              K (vb (Bool.false)) []))))
        (
        K (vb (Bool.false)) []))) := by
  kernel_rfl

theorem nf7 (l : List Ev) (K : V → Heap → Prop) : (exF cfg7 Try.f7 [.row 0] [.row 3 l true] K) = (
    br (Decidable.decide ((↑(List.length l) : Int) > 60))
      (
      K (vb (Bool.true)) [.row 3 (l : List Go.Rx.Ev) Bool.true])
      (
      Loop cfg7 (⟨66, 1⟩ : Cx) (at_ (bodyOf Try.f7) [1, 1, 0, 1, 0, 0])  (mkEnv [(0, .row 0), (3, vi (1))]) [.row 3 (l : List Go.Rx.Ev) Bool.true] (contK cfg7 (⟨66, 1⟩ : Cx) (bodyOf Try.f7) [1, 1, 0, 1, 0] (retK cfg7 Try.f7 1 K)))) := by
  kernel_rfl

theorem nf7r (l : List Ev) (i : Int) (K : V → Heap → Prop) (J : Env → Heap → Prop) : (ex cfg7 (⟨66, 1⟩ : Cx) (at_ (bodyOf Try.f7) [1, 1, 0, 1, 0, 0]) (mkEnv [(0, .row 0), (3, vi i)]) [.row 3 l true] (roundK cfg7 (⟨66, 1⟩ : Cx) (at_ (bodyOf Try.f7) [1, 1, 0, 1, 0, 0]) (contK cfg7 (⟨66, 1⟩ : Cx) (bodyOf Try.f7) [1, 1, 0, 1, 0] (retK cfg7 Try.f7 1 K)) J)) = (
    br (Decidable.decide (i < (↑(List.length l) : Int)))
      (
      Req (Go.Rx.inR (Go.IntKind.wrap Go.IntKind.i64 (i - 1)) (List.length l))
        (
        Req (Go.Rx.inR (Go.Rx.offs (Go.IntKind.wrap Go.IntKind.i64 (i - 1)) 0) (List.length l))
          (
          Req (Go.Rx.inR i (List.length l))
            (
            Req (Go.Rx.inR (Go.Rx.offs i 0) (List.length l))
              (
              Req (Go.Rx.inR (Go.IntKind.wrap Go.IntKind.i64 (i - 1)) (List.length l))
                (
                Req (Go.Rx.inR (Go.Rx.offs (Go.IntKind.wrap Go.IntKind.i64 (i - 1)) 0) (List.length l))
                  (
                  Req (Go.Rx.inR i (List.length l))
                    (
                    Req (Go.Rx.inR (Go.Rx.offs i 0) (List.length l))
                      (
                      br (!Go.Rx.lessM (List.getD l (Int.toNat (Go.Rx.offs (Go.IntKind.wrap Go.IntKind.i64 (i - 1)) 0)) Go.Rx.dEv) (List.getD l (Int.toNat (Go.Rx.offs i 0)) Go.Rx.dEv) == Go.Rx.lessM (List.getD l (Int.toNat (Go.Rx.offs (Go.IntKind.wrap Go.IntKind.i64 (i - 1)) 0)) Go.Rx.dEv) (List.getD l (Int.toNat (Go.Rx.offs i 0)) Go.Rx.dEv))
                        (
                        K (vb (Bool.false)) [.row 3 (l : List Go.Rx.Ev) Bool.true])
                        (
                        Req (Go.Rx.inR i (List.length l))
                          (
                          Req (Go.Rx.inR (Go.Rx.offs i 0) (List.length l))
                            (
                            Req (Go.Rx.inR (Go.IntKind.wrap Go.IntKind.i64 (i - 1)) (List.length l))
                              (
                              Req (Go.Rx.inR (Go.Rx.offs (Go.IntKind.wrap Go.IntKind.i64 (i - 1)) 0) (List.length l))
                                (
                                Req (Go.Rx.inR i (List.length l))
                                  (
                                  Req (Go.Rx.inR (Go.Rx.offs i 0) (List.length l))
                                    (
                                    Req (Go.Rx.inR (Go.IntKind.wrap Go.IntKind.i64 (i - 1)) (List.length l))
                                      (
                                      Req (Go.Rx.inR (Go.Rx.offs (Go.IntKind.wrap Go.IntKind.i64 (i - 1)) 0) (List.length l))
                                        (
                                        br (!Go.Rx.lessM (List.getD l (Int.toNat (Go.Rx.offs i 0)) Go.Rx.dEv) (List.getD l (Int.toNat (Go.Rx.offs (Go.IntKind.wrap Go.IntKind.i64 (i - 1)) 0)) Go.Rx.dEv) == Go.Rx.lessM (List.getD l (Int.toNat (Go.Rx.offs i 0)) Go.Rx.dEv) (List.getD l (Int.toNat (Go.Rx.offs (Go.IntKind.wrap Go.IntKind.i64 (i - 1)) 0)) Go.Rx.dEv))
                                          (
                                          K (vb (Bool.false)) [.row 3 (l : List Go.Rx.Ev) Bool.true])
                                          (
                                          J (mkEnv [(0, .row 0), (3, vi (Go.IntKind.wrap Go.IntKind.i64 (i + 1)))]) [.row 3 (l : List Go.Rx.Ev) Bool.true])))))))))))))))))))
      (
      ((
        (Nat.le (List.length l) 100000)) ∧ (
        ((
          (Nat.le (List.length l) 100000)) ∧ (
          ((
            (Nat.le (List.length (Go.Rx.sortM l)) 1048576)) ∧ (
            br (Go.Rx.eqI (Go.Rx.sortM l) (Go.Rx.sortM l))
              (
              K (vb (Bool.true)) [.row 3 (l : List Go.Rx.Ev) Bool.true])
              (
              K (vb (Bool.false)) [.row 3 (l : List Go.Rx.Ev) Bool.true]))))))))) := by
  kernel_rfl

theorem nf9 (l : List Ev) (K : V → Heap → Prop) : (exF cfg9 Try.f9 [.row 0] [.row 3 l true] K) = (
    br (Decidable.decide ((↑(List.length l) : Int) > 60))
      (
      K (vb (Bool.true)) [.row 3 (l : List Go.Rx.Ev) Bool.true])
      (
      ((
        (Nat.le (List.length l) 100000)) ∧ (
        Req (Decidable.decide (0 ≤ (↑(List.length l) : Int) ∧ (↑(List.length l) : Int) ≤ (↑(List.length l) : Int) ∧ (↑(List.length l) : Int) ≤ 1048576))
          (
          Loop cfg9 (⟨127, 1⟩ : Cx) (at_ (bodyOf Try.f9) [1, 1, 1, 1, 0, 1, 0, 0])  (mkEnv [(0, .row 0), (3, .row 1), (4, .row 2), (5, vi (0))]) [.row 3 (l : List Go.Rx.Ev) Bool.true, .row 0 (Go.Rx.sortM l : List Int) Bool.false, .row 1 (List.replicate (Int.toNat (↑(List.length l) : Int)) Bool.false : List Bool) Bool.false] (contK cfg9 (⟨127, 1⟩ : Cx) (bodyOf Try.f9) [1, 1, 1, 1, 0, 1, 0] (retK cfg9 Try.f9 1 K))))))) := by
  kernel_rfl

theorem nf9a (l : List Ev) (o : List Int) (u : List Bool) (i : Int) (K : V → Heap → Prop) (J : Env → Heap → Prop) : (ex cfg9 (⟨127, 1⟩ : Cx) (at_ (bodyOf Try.f9) [1, 1, 1, 1, 0, 1, 0, 0]) (mkEnv [(0, .row 0), (3, .row 1), (4, .row 2), (5, vi i)]) [.row 3 l true, .row 0 o false, .row 1 u false] (roundK cfg9 (⟨127, 1⟩ : Cx) (at_ (bodyOf Try.f9) [1, 1, 1, 1, 0, 1, 0, 0]) (contK cfg9 (⟨127, 1⟩ : Cx) (bodyOf Try.f9) [1, 1, 1, 1, 0, 1, 0] (retK cfg9 Try.f9 1 K)) J)) = (
    br (Decidable.decide (i < (↑(List.length o) : Int)))
      (
      Req (Go.Rx.inR i (List.length o))
        (
        Req (Go.Rx.inR (Go.Rx.offs i 0) (List.length o))
          (
          br (Decidable.decide (List.getD o (Int.toNat (Go.Rx.offs i 0)) 0 < 0))
            (
            K (vb (Bool.false)) [.row 3 (l : List Go.Rx.Ev) Bool.true])
            (
            Req (Go.Rx.inR i (List.length o))
              (
              Req (Go.Rx.inR (Go.Rx.offs i 0) (List.length o))
                (
                br (Decidable.decide (List.getD o (Int.toNat (Go.Rx.offs i 0)) 0 ≥ (↑(List.length l) : Int)))
                  (
                  K (vb (Bool.false)) [.row 3 (l : List Go.Rx.Ev) Bool.true])
                  (
                  Req (Go.Rx.inR i (List.length o))
                    (
                    Req (Go.Rx.inR (Go.Rx.offs i 0) (List.length o))
                      (
                      Req (Go.Rx.inR (List.getD o (Int.toNat (Go.Rx.offs i 0)) 0) (List.length u))
                        (
                        Req (Go.Rx.inR (Go.Rx.offs (List.getD o (Int.toNat (Go.Rx.offs i 0)) 0) 0) (List.length u))
                          (
                          br (List.getD u (Int.toNat (Go.Rx.offs (List.getD o (Int.toNat (Go.Rx.offs i 0)) 0) 0)) Bool.false)
                            (
                            K (vb (Bool.false)) [.row 3 (l : List Go.Rx.Ev) Bool.true])
                            (
                            Req (Go.Rx.inR i (List.length o))
                              (
                              Req (Go.Rx.inR (Go.Rx.offs i 0) (List.length o))
                                (
                                Req (Go.Rx.inR (List.getD o (Int.toNat (Go.Rx.offs i 0)) 0) (List.length l))
                                  (
                                  Req (Go.Rx.inR (Go.Rx.offs (List.getD o (Int.toNat (Go.Rx.offs i 0)) 0) 0) (List.length l))
                                    (
                                    br (!Go.Rx.Ev.Sure (List.getD l (Int.toNat (Go.Rx.offs (List.getD o (Int.toNat (Go.Rx.offs i 0)) 0) 0)) Go.Rx.dEv))
                                      (
                                      K (vb (Bool.false)) [.row 3 (l : List Go.Rx.Ev) Bool.true])
                                      (
                                      Req (Go.Rx.inR i (List.length o))
                                        (
                                        Req (Go.Rx.inR (Go.Rx.offs i 0) (List.length o))
                                          (
                                          Req (Go.Rx.inR (List.getD o (Int.toNat (Go.Rx.offs i 0)) 0) (List.length u))
                                            (
                                            Req (Go.Rx.inR (Go.Rx.offs (List.getD o (Int.toNat (Go.Rx.offs i 0)) 0) 0) (List.length u))
                                              (
                                              Loop cfg9 (⟨127, 1⟩ : Cx) (at_ (bodyOf Try.f9) [1, 1, 1, 1, 0, 1, 0, 0, 1, 0, 0, 1, 1, 1, 0, 0])  (mkEnv [(0, .row 0), (3, .row 1), (4, .row 2), (5, vi (i)), (6, vi (0))]) [.row 3 (l : List Go.Rx.Ev) Bool.true, .row 0 (o : List Int) Bool.false, .row 1 (List.set u (Int.toNat (Go.Rx.offs (List.getD o (Int.toNat (Go.Rx.offs i 0)) 0) 0)) Bool.true : List Bool) Bool.false] (contK cfg9 (⟨127, 1⟩ : Cx) (at_ (bodyOf Try.f9) [1, 1, 1, 1, 0, 1, 0, 0]) [1, 0, 0, 1, 1, 1, 0] (roundK cfg9 (⟨127, 1⟩ : Cx) (at_ (bodyOf Try.f9) [1, 1, 1, 1, 0, 1, 0, 0]) (contK cfg9 (⟨127, 1⟩ : Cx) (bodyOf Try.f9) [1, 1, 1, 1, 0, 1, 0] (retK cfg9 Try.f9 1 K)) J)))))))))))))))))))))))
      (
      Loop cfg9 (⟨127, 1⟩ : Cx) (at_ (bodyOf Try.f9) [1, 1, 1, 1, 1, 1, 0, 1, 0, 0])  (mkEnv [(0, .row 0), (3, .row 1), (4, .row 2), (7, vb (Bool.true)), (8, vi (0))]) [.row 3 (l : List Go.Rx.Ev) Bool.true, .row 0 (o : List Int) Bool.false, .row 1 (u : List Bool) Bool.false] (contK cfg9 (⟨127, 1⟩ : Cx) (bodyOf Try.f9) [1, 1, 1, 1, 1, 1, 0, 1, 0] (retK cfg9 Try.f9 1 K)))) := by
  kernel_rfl

theorem nf9b (l : List Ev) (o : List Int) (u : List Bool) (i j : Int) (K : V → Heap → Prop) (J J2 : Env → Heap → Prop) : (ex cfg9 (⟨127, 1⟩ : Cx) (at_ (bodyOf Try.f9) [1, 1, 1, 1, 0, 1, 0, 0, 1, 0, 0, 1, 1, 1, 0, 0]) (mkEnv [(0, .row 0), (3, .row 1), (4, .row 2), (5, vi i), (6, vi j)]) [.row 3 l true, .row 0 o false, .row 1 u false] (roundK cfg9 (⟨127, 1⟩ : Cx) (at_ (bodyOf Try.f9) [1, 1, 1, 1, 0, 1, 0, 0, 1, 0, 0, 1, 1, 1, 0, 0]) (contK cfg9 (⟨127, 1⟩ : Cx) (at_ (bodyOf Try.f9) [1, 1, 1, 1, 0, 1, 0, 0]) [1, 0, 0, 1, 1, 1, 0] (roundK cfg9 (⟨127, 1⟩ : Cx) (at_ (bodyOf Try.f9) [1, 1, 1, 1, 0, 1, 0, 0]) (contK cfg9 (⟨127, 1⟩ : Cx) (bodyOf Try.f9) [1, 1, 1, 1, 0, 1, 0] (retK cfg9 Try.f9 1 K)) J)) J2)) = (
    br (Decidable.decide (j < i))
      (
      Req (Go.Rx.inR i (List.length o))
        (
        Req (Go.Rx.inR (Go.Rx.offs i 0) (List.length o))
          (
          Req (Go.Rx.inR (List.getD o (Int.toNat (Go.Rx.offs i 0)) 0) (List.length l))
            (
            Req (Go.Rx.inR (Go.Rx.offs (List.getD o (Int.toNat (Go.Rx.offs i 0)) 0) 0) (List.length l))
              (
              Req (Go.Rx.inR j (List.length o))
                (
                Req (Go.Rx.inR (Go.Rx.offs j 0) (List.length o))
                  (
                  Req (Go.Rx.inR (List.getD o (Int.toNat (Go.Rx.offs j 0)) 0) (List.length l))
                    (
                    Req (Go.Rx.inR (Go.Rx.offs (List.getD o (Int.toNat (Go.Rx.offs j 0)) 0) 0) (List.length l))
                      (
                      br (Go.Rx.lessM (List.getD l (Int.toNat (Go.Rx.offs (List.getD o (Int.toNat (Go.Rx.offs i 0)) 0) 0)) Go.Rx.dEv) (List.getD l (Int.toNat (Go.Rx.offs (List.getD o (Int.toNat (Go.Rx.offs j 0)) 0) 0)) Go.Rx.dEv))
                        (
                        K (vb (Bool.false)) [.row 3 (l : List Go.Rx.Ev) Bool.true])
                        (
                        J2 (mkEnv [(0, .row 0), (3, .row 1), (4, .row 2), (5, vi (i)), (6, vi (Go.IntKind.wrap Go.IntKind.i64 (j + 1)))]) [.row 3 (l : List Go.Rx.Ev) Bool.true, .row 0 (o : List Int) Bool.false, .row 1 (u : List Bool) Bool.false]))))))))))
      (
      J (mkEnv [(0, .row 0), (3, .row 1), (4, .row 2), (5, vi (Go.IntKind.wrap Go.IntKind.i64 (i + 1)))]) [.row 3 (l : List Go.Rx.Ev) Bool.true, .row 0 (o : List Int) Bool.false, .row 1 (u : List Bool) Bool.false])) := by
  kernel_rfl

theorem nf9c (l : List Ev) (o : List Int) (u : List Bool) (q : Bool) (i : Int) (K : V → Heap → Prop) (J : Env → Heap → Prop) : (ex cfg9 (⟨127, 1⟩ : Cx) (at_ (bodyOf Try.f9) [1, 1, 1, 1, 1, 1, 0, 1, 0, 0]) (mkEnv [(0, .row 0), (3, .row 1), (4, .row 2), (7, vb q), (8, vi i)]) [.row 3 l true, .row 0 o false, .row 1 u false] (roundK cfg9 (⟨127, 1⟩ : Cx) (at_ (bodyOf Try.f9) [1, 1, 1, 1, 1, 1, 0, 1, 0, 0]) (contK cfg9 (⟨127, 1⟩ : Cx) (bodyOf Try.f9) [1, 1, 1, 1, 1, 1, 0, 1, 0] (retK cfg9 Try.f9 1 K)) J)) = (
    br (Decidable.decide (i < (↑(List.length l) : Int)))
      (
      Req (Go.Rx.inR i (List.length l))
        (
        Req (Go.Rx.inR (Go.Rx.offs i 0) (List.length l))
          (
          Req (Go.Rx.inR i (List.length u))
            (
            Req (Go.Rx.inR (Go.Rx.offs i 0) (List.length u))
              (
              br (!Go.Rx.Ev.Sure (List.getD l (Int.toNat (Go.Rx.offs i 0)) Go.Rx.dEv) == List.getD u (Int.toNat (Go.Rx.offs i 0)) Bool.false)
                (
                K (vb (Bool.false)) [.row 3 (l : List Go.Rx.Ev) Bool.true])
                (
                br (q)
                  (
                  Req (Go.Rx.inR i (List.length l))
                    (
                    Req (Go.Rx.inR (Go.Rx.offs i 0) (List.length l))
                      (
                      br (!Go.Rx.Ev.Done (List.getD l (Int.toNat (Go.Rx.offs i 0)) Go.Rx.dEv))
                        (
                        J (mkEnv [(0, .row 0), (3, .row 1), (4, .row 2), (7, vb (Bool.true)), (8, vi (Go.IntKind.wrap Go.IntKind.i64 (i + 1)))]) [.row 3 (l : List Go.Rx.Ev) Bool.true, .row 0 (o : List Int) Bool.false, .row 1 (u : List Bool) Bool.false])
                        (
                        Req (Go.Rx.inR i (List.length l))
                          (
                          Req (Go.Rx.inR (Go.Rx.offs i 0) (List.length l))
                            (
                            J (mkEnv [(0, .row 0), (3, .row 1), (4, .row 2), (7, vb (Go.Rx.Ev.Sure (List.getD l (Int.toNat (Go.Rx.offs i 0)) Go.Rx.dEv))), (8, vi (Go.IntKind.wrap Go.IntKind.i64 (i + 1)))]) [.row 3 (l : List Go.Rx.Ev) Bool.true, .row 0 (o : List Int) Bool.false, .row 1 (u : List Bool) Bool.false]))))))
                  (
                  J (mkEnv [(0, .row 0), (3, .row 1), (4, .row 2), (7, vb (Bool.false)), (8, vi (Go.IntKind.wrap Go.IntKind.i64 (i + 1)))]) [.row 3 (l : List Go.Rx.Ev) Bool.true, .row 0 (o : List Int) Bool.false, .row 1 (u : List Bool) Bool.false])))))))
      (
      br (!q)
        (
        K (vb (Bool.true)) [.row 3 (l : List Go.Rx.Ev) Bool.true])
        (
        ((
          (Nat.le (List.length l) 100000)) ∧ (
          ((
            (Nat.le (List.length o) 100000)) ∧ (
            br (Go.Rx.checkM l o != 2)
              (
              K (vb (Bool.true)) [.row 3 (l : List Go.Rx.Ev) Bool.true])
              (
              K (vb (Bool.false)) [.row 3 (l : List Go.Rx.Ev) Bool.true])))))))) := by
  kernel_rfl

theorem nf8 (l : List Ev) (o : List Int) (K : V → Heap → Prop) : (exF cfg8 Try.f8 [.row 0, .row 1] [.row 3 l true, .row 0 o true] K) = (
    br (Decidable.decide ((↑(List.length l) : Int) > 60))
      (
      K (vb (Bool.true)) [.row 3 (l : List Go.Rx.Ev) Bool.true, .row 0 (o : List Int) Bool.true])
      (
      br (Decidable.decide ((↑(List.length o) : Int) > 80))
        (
        K (vb (Bool.true)) [.row 3 (l : List Go.Rx.Ev) Bool.true, .row 0 (o : List Int) Bool.true])
        (
        ((
          (Nat.le (List.length l) 100000)) ∧ (
          ((
            (Nat.le (List.length o) 100000)) ∧ (
            ((
              (Nat.le (List.length l) 100000)) ∧ (
              ((
                (Nat.le (List.length o) 100000)) ∧ (
                br (Go.Rx.checkM l o == Go.Rx.refCheckM l o)
                  (
                  ((
                    (Nat.le (List.length l) 100000)) ∧ (
                    ((
                      (Nat.le (List.length l) 100000)) ∧ (
                      ((
                        (Nat.le (List.length (Go.Rx.sortM l)) 100000)) ∧ (
                        ((
                          (Nat.le (List.length l) 100000)) ∧ (
                          ((
                            (Nat.le (List.length l) 100000)) ∧ (
                            ((
                              (Nat.le (List.length (Go.Rx.sortM l)) 100000)) ∧ (
                              br (Go.Rx.checkM l (Go.Rx.sortM l) == Go.Rx.refCheckM l (Go.Rx.sortM l))
                                (
                                K (vb (Bool.true)) [.row 3 (l : List Go.Rx.Ev) Bool.true, .row 0 (o : List Int) Bool.true])
                                (
                                K (vb (Bool.false)) [.row 3 (l : List Go.Rx.Ev) Bool.true, .row 0 (o : List Int) Bool.true]))))))))))))))
                  (
                  K (vb (Bool.false)) [.row 3 (l : List Go.Rx.Ev) Bool.true, .row 0 (o : List Int) Bool.true])))))))))))) := by
  kernel_rfl

end Go.Rx
