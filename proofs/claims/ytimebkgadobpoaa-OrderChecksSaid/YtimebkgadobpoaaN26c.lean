/- Normal forms of the program's code (by a program of this session's; the kernel checks each). -/
import Derived.Test.YtimebkgadobpoaaC26c
namespace Go.Rx
open Go.Proofs
set_option maxRecDepth 100000
theorem nf27 (l : List Ev) (K : V → Heap → Prop) : (exF cfg27 Try.f27 [.row 0] [.row 3 l true] K) = (
    Loop cfg27 (⟨57, 1⟩ : Cx) (at_ (bodyOf Try.f27) [1, 0, 1, 1, 0, 1, 0, 0])  (mkEnv [(0, .row 0), (3, .row 1), (7, .row 0), (8, vi ((↑(List.length l) : Int))), (9, vi (0))]) [.row 3 (l : List Go.Rx.Ev) Bool.true, .row 0 ([] : List Int) Bool.false] (contK cfg27 (⟨57, 1⟩ : Cx) (bodyOf Try.f27) [1, 0, 1, 1, 0, 1, 0] (retK cfg27 Try.f27 1 K))) := by
  kernel_rfl

theorem nf27r (l : List Ev) (out : List Int) (n i : Int) (K : V → Heap → Prop) (J : Env → Heap → Prop) : (ex cfg27 (⟨57, 1⟩ : Cx) (at_ (bodyOf Try.f27) [1, 0, 1, 1, 0, 1, 0, 0]) (mkEnv [(0, .row 0), (3, .row 1), (7, .row 0), (8, vi n), (9, vi i)]) [.row 3 l true, .row 0 out false] (roundK cfg27 (⟨57, 1⟩ : Cx) (at_ (bodyOf Try.f27) [1, 0, 1, 1, 0, 1, 0, 0]) (contK cfg27 (⟨57, 1⟩ : Cx) (bodyOf Try.f27) [1, 0, 1, 1, 0, 1, 0] (retK cfg27 Try.f27 1 K)) J)) = (
    br (Decidable.decide (i < n))
      (
      Req (Go.Rx.inR i (List.length l))
        (
        Req (Go.Rx.inR (Go.Rx.offs i 0) (List.length l))
          (
          br (!Go.Rx.Ev.Sure (List.getD l (Int.toNat (Go.Rx.offs i 0)) Go.Rx.dEv))
            (
            J (mkEnv [(0, .row 0), (3, .row 1), (7, .row 0), (8, vi (n)), (9, vi (Go.IntKind.wrap Go.IntKind.i64 (i + 1)))]) [.row 3 (l : List Go.Rx.Ev) Bool.true, .row 0 (out : List Int) Bool.false])
            (
            Req (Decidable.decide (List.length out + 1 ≤ 1048576))
              (
              Loop cfg27 (⟨57, 1⟩ : Cx) (at_ (bodyOf Try.f27) [1, 0, 1, 1, 0, 1, 0, 0, 1, 1, 0, 0, 1, 1, 1, 1, 0, 0])  (mkEnv [(0, .row 0), (3, .row 1), (7, .row 0), (8, vi (n)), (9, vi (i)), (5, .ptr 2 0), (4, vi (i)), (6, vi (Go.IntKind.wrap Go.IntKind.i64 ((↑(List.length (out ++ [i])) : Int) - 1)))]) [.row 3 (l : List Go.Rx.Ev) Bool.true, .row 0 (out ++ [i] : List Int) Bool.false, .cells 36 (Go.Rx.evCs (List.getD l (Int.toNat (Go.Rx.offs i 0)) Go.Rx.dEv))] (contK cfg27 (⟨57, 1⟩ : Cx) (at_ (bodyOf Try.f27) [1, 0, 1, 1, 0, 1, 0, 0]) [1, 1, 0, 0, 1, 1, 1, 1, 0] (roundK cfg27 (⟨57, 1⟩ : Cx) (at_ (bodyOf Try.f27) [1, 0, 1, 1, 0, 1, 0, 0]) (contK cfg27 (⟨57, 1⟩ : Cx) (bodyOf Try.f27) [1, 0, 1, 1, 0, 1, 0] (retK cfg27 Try.f27 1 K)) J)))))))
      (
      K (.row 1) [.row 3 (l : List Go.Rx.Ev) Bool.true, .row 0 (out : List Int) Bool.false])) := by
  kernel_rfl

theorem nf27i (l : List Ev) (out : List Int) (n i : Int) (e : Ev) (i2 k : Int) (K : V → Heap → Prop) (J J2 : Env → Heap → Prop) : (ex cfg27 (⟨57, 1⟩ : Cx) (at_ (bodyOf Try.f27) [1, 0, 1, 1, 0, 1, 0, 0, 1, 1, 0, 0, 1, 1, 1, 1, 0, 0]) (mkEnv [(0, .row 0), (3, .row 1), (7, .row 0), (8, vi n), (9, vi i), (5, .ptr 2 0), (4, vi i2), (6, vi k)]) [.row 3 l true, .row 0 out false, .cells 36 (evCs e)] (roundK cfg27 (⟨57, 1⟩ : Cx) (at_ (bodyOf Try.f27) [1, 0, 1, 1, 0, 1, 0, 0, 1, 1, 0, 0, 1, 1, 1, 1, 0, 0]) (contK cfg27 (⟨57, 1⟩ : Cx) (at_ (bodyOf Try.f27) [1, 0, 1, 1, 0, 1, 0, 0]) [1, 1, 0, 0, 1, 1, 1, 1, 0] (roundK cfg27 (⟨57, 1⟩ : Cx) (at_ (bodyOf Try.f27) [1, 0, 1, 1, 0, 1, 0, 0]) (contK cfg27 (⟨57, 1⟩ : Cx) (bodyOf Try.f27) [1, 0, 1, 1, 0, 1, 0] (retK cfg27 Try.f27 1 K)) J)) J2)) = (
    br (Decidable.decide (k > 0))
      (
      Req (Go.Rx.inR (Go.IntKind.wrap Go.IntKind.i64 (k - 1)) (List.length out))
        (
        Req (Go.Rx.inR (Go.Rx.offs (Go.IntKind.wrap Go.IntKind.i64 (k - 1)) 0) (List.length out))
          (
          Req (Go.Rx.inR (List.getD out (Int.toNat (Go.Rx.offs (Go.IntKind.wrap Go.IntKind.i64 (k - 1)) 0)) 0) (List.length l))
            (
            Req (Go.Rx.inR (Go.Rx.offs (List.getD out (Int.toNat (Go.Rx.offs (Go.IntKind.wrap Go.IntKind.i64 (k - 1)) 0)) 0) 0) (List.length l))
              (
              br (!Go.Rx.lessM e (List.getD l (Int.toNat (Go.Rx.offs (List.getD out (Int.toNat (Go.Rx.offs (Go.IntKind.wrap Go.IntKind.i64 (k - 1)) 0)) 0) 0)) Go.Rx.dEv))
                (
                J (mkEnv [(0, .row 0), (3, .row 1), (7, .row 0), (8, vi (n)), (9, vi (Go.IntKind.wrap Go.IntKind.i64 (i + 1)))]) [.row 3 (l : List Go.Rx.Ev) Bool.true, .row 0 (out : List Int) Bool.false])
                (
                Req (Go.Rx.inR (Go.IntKind.wrap Go.IntKind.i64 (k - 1)) (List.length out))
                  (
                  Req (Go.Rx.inR (Go.Rx.offs (Go.IntKind.wrap Go.IntKind.i64 (k - 1)) 0) (List.length out))
                    (
                    Req (Go.Rx.inR k (List.length out))
                      (
                      Req (Go.Rx.inR (Go.Rx.offs k 0) (List.length out))
                        (
                        Req (Go.Rx.inR k (List.length out))
                          (
                          Req (Go.Rx.inR (Go.Rx.offs k 0) (List.length out))
                            (
                            Req (Go.Rx.inR (Go.IntKind.wrap Go.IntKind.i64 (k - 1)) (List.length out))
                              (
                              Req (Go.Rx.inR (Go.Rx.offs (Go.IntKind.wrap Go.IntKind.i64 (k - 1)) 0) (List.length (List.set out (Int.toNat (Go.Rx.offs k 0)) (List.getD out (Int.toNat (Go.Rx.offs (Go.IntKind.wrap Go.IntKind.i64 (k - 1)) 0)) 0))))
                                (
                                J2 (mkEnv [(0, .row 0), (3, .row 1), (7, .row 0), (8, vi (n)), (9, vi (i)), (5, .ptr 2 0), (4, vi (i2)), (6, vi (Go.IntKind.wrap Go.IntKind.i64 (k - 1)))]) [.row 3 (l : List Go.Rx.Ev) Bool.true, .row 0 (List.set (List.set out (Int.toNat (Go.Rx.offs k 0)) (List.getD out (Int.toNat (Go.Rx.offs (Go.IntKind.wrap Go.IntKind.i64 (k - 1)) 0)) 0)) (Int.toNat (Go.Rx.offs (Go.IntKind.wrap Go.IntKind.i64 (k - 1)) 0)) (List.getD out (Int.toNat (Go.Rx.offs k 0)) 0) : List Int) Bool.false, .cells 36 (Go.Rx.evCs (e))]))))))))))))))
      (
      J (mkEnv [(0, .row 0), (3, .row 1), (7, .row 0), (8, vi (n)), (9, vi (Go.IntKind.wrap Go.IntKind.i64 (i + 1)))]) [.row 3 (l : List Go.Rx.Ev) Bool.true, .row 0 (out : List Int) Bool.false])) := by
  kernel_rfl

theorem nf28 (l : List Ev) (K : V → Heap → Prop) : (exF cfg28 Try.f28 [.row 0] [.row 3 l true] K) = (
    Loop cfg28 (⟨55, 1⟩ : Cx) (at_ (bodyOf Try.f28) [1, 1, 0, 1, 0, 0])  (mkEnv [(0, .row 0), (3, .row 1), (4, vi (0))]) [.row 3 (l : List Go.Rx.Ev) Bool.true, .row 0 ([] : List Int) Bool.false] (contK cfg28 (⟨55, 1⟩ : Cx) (bodyOf Try.f28) [1, 1, 0, 1, 0] (retK cfg28 Try.f28 1 K))) := by
  kernel_rfl

theorem nf28r (l : List Ev) (out : List Int) (i : Int) (K : V → Heap → Prop) (J : Env → Heap → Prop) : (ex cfg28 (⟨55, 1⟩ : Cx) (at_ (bodyOf Try.f28) [1, 1, 0, 1, 0, 0]) (mkEnv [(0, .row 0), (3, .row 1), (4, vi i)]) [.row 3 l true, .row 0 out false] (roundK cfg28 (⟨55, 1⟩ : Cx) (at_ (bodyOf Try.f28) [1, 1, 0, 1, 0, 0]) (contK cfg28 (⟨55, 1⟩ : Cx) (bodyOf Try.f28) [1, 1, 0, 1, 0] (retK cfg28 Try.f28 1 K)) J)) = (
    br (Decidable.decide (i < (↑(List.length l) : Int)))
      (
      Req (Go.Rx.inR i (List.length l))
        (
        Req (Go.Rx.inR (Go.Rx.offs i 0) (List.length l))
          (
          br (!Go.Rx.Ev.Sure (List.getD l (Int.toNat (Go.Rx.offs i 0)) Go.Rx.dEv))
            (
            J (mkEnv [(0, .row 0), (3, .row 1), (4, vi (Go.IntKind.wrap Go.IntKind.i64 (i + 1)))]) [.row 3 (l : List Go.Rx.Ev) Bool.true, .row 0 (out : List Int) Bool.false])
            (
            Loop cfg28 (⟨55, 1⟩ : Cx) (at_ (bodyOf Try.f28) [1, 1, 0, 1, 0, 0, 1, 0, 0, 1, 1, 0, 0, 0])  (mkEnv [(0, .row 0), (3, .row 1), (4, vi (i)), (5, vi ((↑(List.length out) : Int)))]) [.row 3 (l : List Go.Rx.Ev) Bool.true, .row 0 (out : List Int) Bool.false] (contK cfg28 (⟨55, 1⟩ : Cx) (at_ (bodyOf Try.f28) [1, 1, 0, 1, 0, 0]) [1, 0, 0, 1, 1, 0, 0] (roundK cfg28 (⟨55, 1⟩ : Cx) (at_ (bodyOf Try.f28) [1, 1, 0, 1, 0, 0]) (contK cfg28 (⟨55, 1⟩ : Cx) (bodyOf Try.f28) [1, 1, 0, 1, 0] (retK cfg28 Try.f28 1 K)) J))))))
      (
      K (.row 1) [.row 3 (l : List Go.Rx.Ev) Bool.true, .row 0 (out : List Int) Bool.false])) := by
  kernel_rfl

theorem nf28i (l : List Ev) (out : List Int) (i k : Int) (K : V → Heap → Prop) (J J2 : Env → Heap → Prop) : (ex cfg28 (⟨55, 1⟩ : Cx) (at_ (bodyOf Try.f28) [1, 1, 0, 1, 0, 0, 1, 0, 0, 1, 1, 0, 0, 0]) (mkEnv [(0, .row 0), (3, .row 1), (4, vi i), (5, vi k)]) [.row 3 l true, .row 0 out false] (roundK cfg28 (⟨55, 1⟩ : Cx) (at_ (bodyOf Try.f28) [1, 1, 0, 1, 0, 0, 1, 0, 0, 1, 1, 0, 0, 0]) (contK cfg28 (⟨55, 1⟩ : Cx) (at_ (bodyOf Try.f28) [1, 1, 0, 1, 0, 0]) [1, 0, 0, 1, 1, 0, 0] (roundK cfg28 (⟨55, 1⟩ : Cx) (at_ (bodyOf Try.f28) [1, 1, 0, 1, 0, 0]) (contK cfg28 (⟨55, 1⟩ : Cx) (bodyOf Try.f28) [1, 1, 0, 1, 0] (retK cfg28 Try.f28 1 K)) J)) J2)) = (
    br (Decidable.decide (k > 0))
      (
      Req (Go.Rx.inR i (List.length l))
        (
        Req (Go.Rx.inR (Go.Rx.offs i 0) (List.length l))
          (
          Req (Go.Rx.inR (Go.IntKind.wrap Go.IntKind.i64 (k - 1)) (List.length out))
            (
            Req (Go.Rx.inR (Go.Rx.offs (Go.IntKind.wrap Go.IntKind.i64 (k - 1)) 0) (List.length out))
              (
              Req (Go.Rx.inR (List.getD out (Int.toNat (Go.Rx.offs (Go.IntKind.wrap Go.IntKind.i64 (k - 1)) 0)) 0) (List.length l))
                (
                Req (Go.Rx.inR (Go.Rx.offs (List.getD out (Int.toNat (Go.Rx.offs (Go.IntKind.wrap Go.IntKind.i64 (k - 1)) 0)) 0) 0) (List.length l))
                  (
                  br (Go.Rx.lessM (List.getD l (Int.toNat (Go.Rx.offs i 0)) Go.Rx.dEv) (List.getD l (Int.toNat (Go.Rx.offs (List.getD out (Int.toNat (Go.Rx.offs (Go.IntKind.wrap Go.IntKind.i64 (k - 1)) 0)) 0) 0)) Go.Rx.dEv))
                    (
                    J2 (mkEnv [(0, .row 0), (3, .row 1), (4, vi (i)), (5, vi (Go.IntKind.wrap Go.IntKind.i64 (k - 1)))]) [.row 3 (l : List Go.Rx.Ev) Bool.true, .row 0 (out : List Int) Bool.false])
                    (
                    Req (Decidable.decide (0 ≤ k ∧ k ≤ (↑(List.length out) : Int)))
                      (
                      Req (Decidable.decide (0 + Int.toNat k ≤ List.length out))
                        (
                        Req (Decidable.decide (0 + List.length (List.take (Int.toNat k) (List.drop 0 out)) ≤ 1048576))
                          (
                          Req (Decidable.decide (List.length (List.take (Int.toNat k) (List.drop 0 out)) + 1 ≤ 1048576))
                            (
                            Req (Decidable.decide (0 ≤ k ∧ k ≤ (↑(List.length out) : Int)))
                              (
                              Req (Decidable.decide (Int.toNat k + (List.length out - Int.toNat k) ≤ List.length out))
                                (
                                Req (Decidable.decide (List.length (List.take (Int.toNat k) (List.drop 0 out) ++ [i]) + List.length (List.take (List.length out - Int.toNat k) (List.drop (Int.toNat k) out)) ≤ 1048576))
                                  (
                                  J (mkEnv [(0, .row 0), (3, .row 1), (4, vi (Go.IntKind.wrap Go.IntKind.i64 (i + 1)))]) [.row 3 (l : List Go.Rx.Ev) Bool.true, .row 0 (List.take (Int.toNat k) (List.drop 0 out) ++ [i] ++ List.take (List.length out - Int.toNat k) (List.drop (Int.toNat k) out) : List Int) Bool.false])))))))))))))))
      (
      Req (Decidable.decide (0 ≤ k ∧ k ≤ (↑(List.length out) : Int)))
        (
        Req (Decidable.decide (0 + Int.toNat k ≤ List.length out))
          (
          Req (Decidable.decide (0 + List.length (List.take (Int.toNat k) (List.drop 0 out)) ≤ 1048576))
            (
            Req (Decidable.decide (List.length (List.take (Int.toNat k) (List.drop 0 out)) + 1 ≤ 1048576))
              (
              Req (Decidable.decide (0 ≤ k ∧ k ≤ (↑(List.length out) : Int)))
                (
                Req (Decidable.decide (Int.toNat k + (List.length out - Int.toNat k) ≤ List.length out))
                  (
                  Req (Decidable.decide (List.length (List.take (Int.toNat k) (List.drop 0 out) ++ [i]) + List.length (List.take (List.length out - Int.toNat k) (List.drop (Int.toNat k) out)) ≤ 1048576))
                    (
                    J (mkEnv [(0, .row 0), (3, .row 1), (4, vi (Go.IntKind.wrap Go.IntKind.i64 (i + 1)))]) [.row 3 (l : List Go.Rx.Ev) Bool.true, .row 0 (List.take (Int.toNat k) (List.drop 0 out) ++ [i] ++ List.take (List.length out - Int.toNat k) (List.drop (Int.toNat k) out) : List Int) Bool.false]))))))))) := by
  kernel_rfl

end Go.Rx
