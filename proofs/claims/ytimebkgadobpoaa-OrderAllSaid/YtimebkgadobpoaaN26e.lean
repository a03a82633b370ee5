/- Normal forms of the program's code (by a program of this session's; the kernel checks each). -/
import Derived.Test.YtimebkgadobpoaaC26e
namespace Go.Rx
open Go.Proofs
set_option maxRecDepth 100000
theorem nf30 (l : List Ev) (o : List Int) (K : V → Heap → Prop) : (exF cfg30 Try.f30 [.row 0, .row 1] [.row 3 l true, .row 0 o true] K) = (
    Req (Decidable.decide (0 ≤ (↑(List.length l) : Int) ∧ (↑(List.length l) : Int) ≤ (↑(List.length l) : Int) ∧ (↑(List.length l) : Int) ≤ 1048576))
      (
      Loop cfg30 (⟨116, 2⟩ : Cx) (at_ (bodyOf Try.f30) [1, 1, 0, 1, 0, 0])  (mkEnv [(0, .row 0), (1, .row 1), (5, .row 2), (6, vi (0))]) [.row 3 (l : List Go.Rx.Ev) Bool.true, .row 0 (o : List Int) Bool.true, .row 0 (List.replicate (Int.toNat (↑(List.length l) : Int)) (0 : Int) : List Int) Bool.false] (contK cfg30 (⟨116, 2⟩ : Cx) (bodyOf Try.f30) [1, 1, 0, 1, 0] (retK cfg30 Try.f30 2 K)))) := by
  kernel_rfl

theorem nf30a (l : List Ev) (o : List Int) (r : List Int) (i : Int) (K : V → Heap → Prop) (J : Env → Heap → Prop) : (ex cfg30 (⟨116, 2⟩ : Cx) (at_ (bodyOf Try.f30) [1, 1, 0, 1, 0, 0]) (mkEnv [(0, .row 0), (1, .row 1), (5, .row 2), (6, vi i)]) [.row 3 l true, .row 0 o true, .row 0 r false] (roundK cfg30 (⟨116, 2⟩ : Cx) (at_ (bodyOf Try.f30) [1, 1, 0, 1, 0, 0]) (contK cfg30 (⟨116, 2⟩ : Cx) (bodyOf Try.f30) [1, 1, 0, 1, 0] (retK cfg30 Try.f30 2 K)) J)) = (
    br (Decidable.decide (i < (↑(List.length o) : Int)))
      (
      Req (Go.Rx.inR i (List.length o))
        (
        Req (Go.Rx.inR (Go.Rx.offs i 0) (List.length o))
          (
          br (Decidable.decide (List.getD o (Int.toNat (Go.Rx.offs i 0)) 0 < 0))
            (
            K (vi (2)) [.row 3 (l : List Go.Rx.Ev) Bool.true, .row 0 (o : List Int) Bool.true])
            (
            br (Decidable.decide (List.getD o (Int.toNat (Go.Rx.offs i 0)) 0 ≥ (↑(List.length l) : Int)))
              (
              K (vi (2)) [.row 3 (l : List Go.Rx.Ev) Bool.true, .row 0 (o : List Int) Bool.true])
              (
              Req (Go.Rx.inR (List.getD o (Int.toNat (Go.Rx.offs i 0)) 0) (List.length r))
                (
                Req (Go.Rx.inR (Go.Rx.offs (List.getD o (Int.toNat (Go.Rx.offs i 0)) 0) 0) (List.length r))
                  (
                  br (List.getD r (Int.toNat (Go.Rx.offs (List.getD o (Int.toNat (Go.Rx.offs i 0)) 0) 0)) 0 != 0)
                    (
                    K (vi (2)) [.row 3 (l : List Go.Rx.Ev) Bool.true, .row 0 (o : List Int) Bool.true])
                    (
                    Req (Go.Rx.inR (List.getD o (Int.toNat (Go.Rx.offs i 0)) 0) (List.length l))
                      (
                      Req (Go.Rx.inR (Go.Rx.offs (List.getD o (Int.toNat (Go.Rx.offs i 0)) 0) 0) (List.length l))
                        (
                        br (!Go.Rx.Ev.Sure (List.getD l (Int.toNat (Go.Rx.offs (List.getD o (Int.toNat (Go.Rx.offs i 0)) 0) 0)) Go.Rx.dEv))
                          (
                          K (vi (2)) [.row 3 (l : List Go.Rx.Ev) Bool.true, .row 0 (o : List Int) Bool.true])
                          (
                          Req (Go.Rx.inR (List.getD o (Int.toNat (Go.Rx.offs i 0)) 0) (List.length r))
                            (
                            Req (Go.Rx.inR (Go.Rx.offs (List.getD o (Int.toNat (Go.Rx.offs i 0)) 0) 0) (List.length r))
                              (
                              J (mkEnv [(0, .row 0), (1, .row 1), (5, .row 2), (6, vi (Go.IntKind.wrap Go.IntKind.i64 (i + 1)))]) [.row 3 (l : List Go.Rx.Ev) Bool.true, .row 0 (o : List Int) Bool.true, .row 0 (List.set r (Int.toNat (Go.Rx.offs (List.getD o (Int.toNat (Go.Rx.offs i 0)) 0) 0)) (Go.IntKind.wrap Go.IntKind.i64 (i + 1)) : List Int) Bool.false])))))))))))))
      (
      Loop cfg30 (⟨116, 2⟩ : Cx) (at_ (bodyOf Try.f30) [1, 1, 1, 0, 1, 0, 0])  (mkEnv [(0, .row 0), (1, .row 1), (5, .row 2), (8, vi (0))]) [.row 3 (l : List Go.Rx.Ev) Bool.true, .row 0 (o : List Int) Bool.true, .row 0 (r : List Int) Bool.false] (contK cfg30 (⟨116, 2⟩ : Cx) (bodyOf Try.f30) [1, 1, 1, 0, 1, 0] (retK cfg30 Try.f30 2 K)))) := by
  kernel_rfl

theorem nf30b (l : List Ev) (o : List Int) (r : List Int) (i : Int) (K : V → Heap → Prop) (J : Env → Heap → Prop) : (ex cfg30 (⟨116, 2⟩ : Cx) (at_ (bodyOf Try.f30) [1, 1, 1, 0, 1, 0, 0]) (mkEnv [(0, .row 0), (1, .row 1), (5, .row 2), (8, vi i)]) [.row 3 l true, .row 0 o true, .row 0 r false] (roundK cfg30 (⟨116, 2⟩ : Cx) (at_ (bodyOf Try.f30) [1, 1, 1, 0, 1, 0, 0]) (contK cfg30 (⟨116, 2⟩ : Cx) (bodyOf Try.f30) [1, 1, 1, 0, 1, 0] (retK cfg30 Try.f30 2 K)) J)) = (
    br (Decidable.decide (i < (↑(List.length l) : Int)))
      (
      Req (Go.Rx.inR i (List.length l))
        (
        Req (Go.Rx.inR (Go.Rx.offs i 0) (List.length l))
          (
          br (Go.Rx.Ev.Done (List.getD l (Int.toNat (Go.Rx.offs i 0)) Go.Rx.dEv))
            (
            Req (Go.Rx.inR i (List.length r))
              (
              Req (Go.Rx.inR (Go.Rx.offs i 0) (List.length r))
                (
                br (List.getD r (Int.toNat (Go.Rx.offs i 0)) 0 == 0)
                  (
                  K (vi (2)) [.row 3 (l : List Go.Rx.Ev) Bool.true, .row 0 (o : List Int) Bool.true])
                  (
                  J (mkEnv [(0, .row 0), (1, .row 1), (5, .row 2), (8, vi (Go.IntKind.wrap Go.IntKind.i64 (i + 1)))]) [.row 3 (l : List Go.Rx.Ev) Bool.true, .row 0 (o : List Int) Bool.true, .row 0 (r : List Int) Bool.false]))))
            (
            J (mkEnv [(0, .row 0), (1, .row 1), (5, .row 2), (8, vi (Go.IntKind.wrap Go.IntKind.i64 (i + 1)))]) [.row 3 (l : List Go.Rx.Ev) Bool.true, .row 0 (o : List Int) Bool.true, .row 0 (r : List Int) Bool.false]))))
      (
      Loop cfg30 (⟨116, 2⟩ : Cx) (at_ (bodyOf Try.f30) [1, 1, 1, 1, 0, 1, 0, 0])  (mkEnv [(0, .row 0), (1, .row 1), (5, .row 2), (9, vi (0))]) [.row 3 (l : List Go.Rx.Ev) Bool.true, .row 0 (o : List Int) Bool.true, .row 0 (r : List Int) Bool.false] (contK cfg30 (⟨116, 2⟩ : Cx) (bodyOf Try.f30) [1, 1, 1, 1, 0, 1, 0] (retK cfg30 Try.f30 2 K)))) := by
  kernel_rfl

theorem nf30c (l : List Ev) (o : List Int) (r : List Int) (i : Int) (K : V → Heap → Prop) (J : Env → Heap → Prop) : (ex cfg30 (⟨116, 2⟩ : Cx) (at_ (bodyOf Try.f30) [1, 1, 1, 1, 0, 1, 0, 0]) (mkEnv [(0, .row 0), (1, .row 1), (5, .row 2), (9, vi i)]) [.row 3 l true, .row 0 o true, .row 0 r false] (roundK cfg30 (⟨116, 2⟩ : Cx) (at_ (bodyOf Try.f30) [1, 1, 1, 1, 0, 1, 0, 0]) (contK cfg30 (⟨116, 2⟩ : Cx) (bodyOf Try.f30) [1, 1, 1, 1, 0, 1, 0] (retK cfg30 Try.f30 2 K)) J)) = (
    br (Decidable.decide (i < (↑(List.length l) : Int)))
      (
      Loop cfg30 (⟨116, 2⟩ : Cx) (at_ (bodyOf Try.f30) [1, 1, 1, 1, 0, 1, 0, 0, 1, 0, 0, 1, 0, 0])  (mkEnv [(0, .row 0), (1, .row 1), (5, .row 2), (9, vi (i)), (10, vi (0))]) [.row 3 (l : List Go.Rx.Ev) Bool.true, .row 0 (o : List Int) Bool.true, .row 0 (r : List Int) Bool.false] (contK cfg30 (⟨116, 2⟩ : Cx) (at_ (bodyOf Try.f30) [1, 1, 1, 1, 0, 1, 0, 0]) [1, 0, 0, 1, 0] (roundK cfg30 (⟨116, 2⟩ : Cx) (at_ (bodyOf Try.f30) [1, 1, 1, 1, 0, 1, 0, 0]) (contK cfg30 (⟨116, 2⟩ : Cx) (bodyOf Try.f30) [1, 1, 1, 1, 0, 1, 0] (retK cfg30 Try.f30 2 K)) J)))
      (
      K (vi (0)) [.row 3 (l : List Go.Rx.Ev) Bool.true, .row 0 (o : List Int) Bool.true])) := by
  kernel_rfl

theorem nf30d (l : List Ev) (o : List Int) (r : List Int) (i j : Int) (K : V → Heap → Prop) (J J2 : Env → Heap → Prop) : (ex cfg30 (⟨116, 2⟩ : Cx) (at_ (bodyOf Try.f30) [1, 1, 1, 1, 0, 1, 0, 0, 1, 0, 0, 1, 0, 0]) (mkEnv [(0, .row 0), (1, .row 1), (5, .row 2), (9, vi i), (10, vi j)]) [.row 3 l true, .row 0 o true, .row 0 r false] (roundK cfg30 (⟨116, 2⟩ : Cx) (at_ (bodyOf Try.f30) [1, 1, 1, 1, 0, 1, 0, 0, 1, 0, 0, 1, 0, 0]) (contK cfg30 (⟨116, 2⟩ : Cx) (at_ (bodyOf Try.f30) [1, 1, 1, 1, 0, 1, 0, 0]) [1, 0, 0, 1, 0] (roundK cfg30 (⟨116, 2⟩ : Cx) (at_ (bodyOf Try.f30) [1, 1, 1, 1, 0, 1, 0, 0]) (contK cfg30 (⟨116, 2⟩ : Cx) (bodyOf Try.f30) [1, 1, 1, 1, 0, 1, 0] (retK cfg30 Try.f30 2 K)) J)) J2)) = (
    br (Decidable.decide (j < (↑(List.length l) : Int)))
      (
      Req (Go.Rx.inR i (List.length r))
        (
        Req (Go.Rx.inR (Go.Rx.offs i 0) (List.length r))
          (
          br (List.getD r (Int.toNat (Go.Rx.offs i 0)) 0 != 0)
            (
            Req (Go.Rx.inR j (List.length r))
              (
              Req (Go.Rx.inR (Go.Rx.offs j 0) (List.length r))
                (
                br (List.getD r (Int.toNat (Go.Rx.offs j 0)) 0 != 0)
                  (
                  Req (Go.Rx.inR i (List.length l))
                    (
                    Req (Go.Rx.inR (Go.Rx.offs i 0) (List.length l))
                      (
                      Req (Go.Rx.inR j (List.length l))
                        (
                        Req (Go.Rx.inR (Go.Rx.offs j 0) (List.length l))
                          (
                          br (Go.Rx.aheadM (List.getD l (Int.toNat (Go.Rx.offs i 0)) Go.Rx.dEv) (List.getD l (Int.toNat (Go.Rx.offs j 0)) Go.Rx.dEv))
                            (
                            Req (Go.Rx.inR j (List.length r))
                              (
                              Req (Go.Rx.inR (Go.Rx.offs j 0) (List.length r))
                                (
                                Req (Go.Rx.inR i (List.length r))
                                  (
                                  Req (Go.Rx.inR (Go.Rx.offs i 0) (List.length r))
                                    (
                                    br (Decidable.decide (List.getD r (Int.toNat (Go.Rx.offs j 0)) 0 < List.getD r (Int.toNat (Go.Rx.offs i 0)) 0))
                                      (
                                      K (vi (17)) [.row 3 (l : List Go.Rx.Ev) Bool.true, .row 0 (o : List Int) Bool.true])
                                      (
                                      J2 (mkEnv [(0, .row 0), (1, .row 1), (5, .row 2), (9, vi (i)), (10, vi (Go.IntKind.wrap Go.IntKind.i64 (j + 1)))]) [.row 3 (l : List Go.Rx.Ev) Bool.true, .row 0 (o : List Int) Bool.true, .row 0 (r : List Int) Bool.false]))))))
                            (
                            J2 (mkEnv [(0, .row 0), (1, .row 1), (5, .row 2), (9, vi (i)), (10, vi (Go.IntKind.wrap Go.IntKind.i64 (j + 1)))]) [.row 3 (l : List Go.Rx.Ev) Bool.true, .row 0 (o : List Int) Bool.true, .row 0 (r : List Int) Bool.false]))))))
                  (
                  J2 (mkEnv [(0, .row 0), (1, .row 1), (5, .row 2), (9, vi (i)), (10, vi (Go.IntKind.wrap Go.IntKind.i64 (j + 1)))]) [.row 3 (l : List Go.Rx.Ev) Bool.true, .row 0 (o : List Int) Bool.true, .row 0 (r : List Int) Bool.false]))))
            (
            J2 (mkEnv [(0, .row 0), (1, .row 1), (5, .row 2), (9, vi (i)), (10, vi (Go.IntKind.wrap Go.IntKind.i64 (j + 1)))]) [.row 3 (l : List Go.Rx.Ev) Bool.true, .row 0 (o : List Int) Bool.true, .row 0 (r : List Int) Bool.false]))))
      (
      J (mkEnv [(0, .row 0), (1, .row 1), (5, .row 2), (9, vi (Go.IntKind.wrap Go.IntKind.i64 (i + 1)))]) [.row 3 (l : List Go.Rx.Ev) Bool.true, .row 0 (o : List Int) Bool.true, .row 0 (r : List Int) Bool.false])) := by
  kernel_rfl

end Go.Rx
