/- Normal forms of the program's code (by a program of this session's; the kernel checks each). -/
import Derived.Test.YtimebkgadobpoaaC26d
namespace Go.Rx
open Go.Proofs
set_option maxRecDepth 100000
theorem nf38 (l : List Ev) (o : List Int) (K : V → Heap → Prop) : (exF cfg38 Try.f38 [.row 0, .row 1] [.row 3 l true, .row 0 o true] K) = (
    Req (Decidable.decide (0 ≤ (↑(List.length l) : Int) ∧ (↑(List.length l) : Int) ≤ (↑(List.length l) : Int) ∧ (↑(List.length l) : Int) ≤ 1048576))
      (
      Loop cfg38 (⟨77, 2⟩ : Cx) (at_ (bodyOf Try.f38) [1, 1, 0, 1, 0, 0])  (mkEnv [(0, .row 0), (1, .row 1), (6, .row 2), (16, vi ((↑(List.length (List.replicate (Int.toNat (↑(List.length l) : Int)) (0 : Int))) : Int))), (17, vi (0))]) [.row 3 (l : List Go.Rx.Ev) Bool.true, .row 0 (o : List Int) Bool.true, .row 0 (List.replicate (Int.toNat (↑(List.length l) : Int)) (0 : Int) : List Int) Bool.false] (contK cfg38 (⟨77, 2⟩ : Cx) (bodyOf Try.f38) [1, 1, 0, 1, 0] (retK cfg38 Try.f38 2 K)))) := by
  kernel_rfl

theorem nf38a (l : List Ev) (o : List Int) (r : List Int) (n i : Int) (K : V → Heap → Prop) (J : Env → Heap → Prop) : (ex cfg38 (⟨77, 2⟩ : Cx) (at_ (bodyOf Try.f38) [1, 1, 0, 1, 0, 0]) (mkEnv [(0, .row 0), (1, .row 1), (6, .row 2), (16, vi n), (17, vi i)]) [.row 3 l true, .row 0 o true, .row 0 r false] (roundK cfg38 (⟨77, 2⟩ : Cx) (at_ (bodyOf Try.f38) [1, 1, 0, 1, 0, 0]) (contK cfg38 (⟨77, 2⟩ : Cx) (bodyOf Try.f38) [1, 1, 0, 1, 0] (retK cfg38 Try.f38 2 K)) J)) = (
    br (Decidable.decide (i < n))
      (
      Req (Go.Rx.inR i (List.length r))
        (
        Req (Go.Rx.inR (Go.Rx.offs i 0) (List.length r))
          (
          J (mkEnv [(0, .row 0), (1, .row 1), (6, .row 2), (16, vi (n)), (17, vi (Go.IntKind.wrap Go.IntKind.i64 (i + 1)))]) [.row 3 (l : List Go.Rx.Ev) Bool.true, .row 0 (o : List Int) Bool.true, .row 0 (List.set r (Int.toNat (Go.Rx.offs i 0)) (-1) : List Int) Bool.false])))
      (
      Loop cfg38 (⟨77, 2⟩ : Cx) (at_ (bodyOf Try.f38) [1, 1, 1, 0, 1, 0, 0])  (mkEnv [(0, .row 0), (1, .row 1), (6, .row 2), (24, .row 1), (25, vi ((↑(List.length o) : Int))), (26, vi (0))]) [.row 3 (l : List Go.Rx.Ev) Bool.true, .row 0 (o : List Int) Bool.true, .row 0 (r : List Int) Bool.false] (contK cfg38 (⟨77, 2⟩ : Cx) (bodyOf Try.f38) [1, 1, 1, 0, 1, 0] (retK cfg38 Try.f38 2 K)))) := by
  kernel_rfl

theorem nf38b (l : List Ev) (o : List Int) (r : List Int) (n i : Int) (K : V → Heap → Prop) (J : Env → Heap → Prop) : (ex cfg38 (⟨77, 2⟩ : Cx) (at_ (bodyOf Try.f38) [1, 1, 1, 0, 1, 0, 0]) (mkEnv [(0, .row 0), (1, .row 1), (6, .row 2), (24, .row 1), (25, vi n), (26, vi i)]) [.row 3 l true, .row 0 o true, .row 0 r false] (roundK cfg38 (⟨77, 2⟩ : Cx) (at_ (bodyOf Try.f38) [1, 1, 1, 0, 1, 0, 0]) (contK cfg38 (⟨77, 2⟩ : Cx) (bodyOf Try.f38) [1, 1, 1, 0, 1, 0] (retK cfg38 Try.f38 2 K)) J)) = (
    br (Decidable.decide (i < n))
      (
      Req (Go.Rx.inR i (List.length o))
        (
        Req (Go.Rx.inR (Go.Rx.offs i 0) (List.length o))
          (
          br (Decidable.decide (List.getD o (Int.toNat (Go.Rx.offs i 0)) 0 < 0))
            (
            K (.tup [.row 2, vb (Bool.false)]) [.row 3 (l : List Go.Rx.Ev) Bool.true, .row 0 (o : List Int) Bool.true, .row 0 ([] : List Int) Bool.false])
            (
            br (Decidable.decide (List.getD o (Int.toNat (Go.Rx.offs i 0)) 0 ≥ (↑(List.length l) : Int)))
              (
              K (.tup [.row 2, vb (Bool.false)]) [.row 3 (l : List Go.Rx.Ev) Bool.true, .row 0 (o : List Int) Bool.true, .row 0 ([] : List Int) Bool.false])
              (
              Req (Go.Rx.inR (List.getD o (Int.toNat (Go.Rx.offs i 0)) 0) (List.length r))
                (
                Req (Go.Rx.inR (Go.Rx.offs (List.getD o (Int.toNat (Go.Rx.offs i 0)) 0) 0) (List.length r))
                  (
                  br (List.getD r (Int.toNat (Go.Rx.offs (List.getD o (Int.toNat (Go.Rx.offs i 0)) 0) 0)) 0 != -1)
                    (
                    K (.tup [.row 2, vb (Bool.false)]) [.row 3 (l : List Go.Rx.Ev) Bool.true, .row 0 (o : List Int) Bool.true, .row 0 ([] : List Int) Bool.false])
                    (
                    Req (Go.Rx.inR (List.getD o (Int.toNat (Go.Rx.offs i 0)) 0) (List.length l))
                      (
                      Req (Go.Rx.inR (Go.Rx.offs (List.getD o (Int.toNat (Go.Rx.offs i 0)) 0) 0) (List.length l))
                        (
                        br (!Go.Rx.Ev.Sure (List.getD l (Int.toNat (Go.Rx.offs (List.getD o (Int.toNat (Go.Rx.offs i 0)) 0) 0)) Go.Rx.dEv))
                          (
                          K (.tup [.row 2, vb (Bool.false)]) [.row 3 (l : List Go.Rx.Ev) Bool.true, .row 0 (o : List Int) Bool.true, .row 0 ([] : List Int) Bool.false])
                          (
                          Req (Go.Rx.inR (List.getD o (Int.toNat (Go.Rx.offs i 0)) 0) (List.length r))
                            (
                            Req (Go.Rx.inR (Go.Rx.offs (List.getD o (Int.toNat (Go.Rx.offs i 0)) 0) 0) (List.length r))
                              (
                              J (mkEnv [(0, .row 0), (1, .row 1), (6, .row 2), (24, .row 1), (25, vi (n)), (26, vi (Go.IntKind.wrap Go.IntKind.i64 (i + 1)))]) [.row 3 (l : List Go.Rx.Ev) Bool.true, .row 0 (o : List Int) Bool.true, .row 0 (List.set r (Int.toNat (Go.Rx.offs (List.getD o (Int.toNat (Go.Rx.offs i 0)) 0) 0)) i : List Int) Bool.false])))))))))))))
      (
      Loop cfg38 (⟨77, 2⟩ : Cx) (at_ (bodyOf Try.f38) [1, 1, 1, 1, 0, 1, 0, 0])  (mkEnv [(0, .row 0), (1, .row 1), (6, .row 2), (59, .row 0), (60, vi ((↑(List.length l) : Int))), (61, vi (0))]) [.row 3 (l : List Go.Rx.Ev) Bool.true, .row 0 (o : List Int) Bool.true, .row 0 (r : List Int) Bool.false] (contK cfg38 (⟨77, 2⟩ : Cx) (bodyOf Try.f38) [1, 1, 1, 1, 0, 1, 0] (retK cfg38 Try.f38 2 K)))) := by
  kernel_rfl

theorem nf38c (l : List Ev) (o : List Int) (r : List Int) (n i : Int) (K : V → Heap → Prop) (J : Env → Heap → Prop) : (ex cfg38 (⟨77, 2⟩ : Cx) (at_ (bodyOf Try.f38) [1, 1, 1, 1, 0, 1, 0, 0]) (mkEnv [(0, .row 0), (1, .row 1), (6, .row 2), (59, .row 0), (60, vi n), (61, vi i)]) [.row 3 l true, .row 0 o true, .row 0 r false] (roundK cfg38 (⟨77, 2⟩ : Cx) (at_ (bodyOf Try.f38) [1, 1, 1, 1, 0, 1, 0, 0]) (contK cfg38 (⟨77, 2⟩ : Cx) (bodyOf Try.f38) [1, 1, 1, 1, 0, 1, 0] (retK cfg38 Try.f38 2 K)) J)) = (
    br (Decidable.decide (i < n))
      (
      Req (Go.Rx.inR i (List.length l))
        (
        Req (Go.Rx.inR (Go.Rx.offs i 0) (List.length l))
          (
          br (Go.Rx.Ev.Done (List.getD l (Int.toNat (Go.Rx.offs i 0)) Go.Rx.dEv))
            (
            Req (Go.Rx.inR i (List.length r))
              (
              Req (Go.Rx.inR (Go.Rx.offs i 0) (List.length r))
                (
                br (List.getD r (Int.toNat (Go.Rx.offs i 0)) 0 == -1)
                  (
                  K (.tup [.row 2, vb (Bool.false)]) [.row 3 (l : List Go.Rx.Ev) Bool.true, .row 0 (o : List Int) Bool.true, .row 0 ([] : List Int) Bool.false])
                  (
                  J (mkEnv [(0, .row 0), (1, .row 1), (6, .row 2), (59, .row 0), (60, vi (n)), (61, vi (Go.IntKind.wrap Go.IntKind.i64 (i + 1)))]) [.row 3 (l : List Go.Rx.Ev) Bool.true, .row 0 (o : List Int) Bool.true, .row 0 (r : List Int) Bool.false]))))
            (
            J (mkEnv [(0, .row 0), (1, .row 1), (6, .row 2), (59, .row 0), (60, vi (n)), (61, vi (Go.IntKind.wrap Go.IntKind.i64 (i + 1)))]) [.row 3 (l : List Go.Rx.Ev) Bool.true, .row 0 (o : List Int) Bool.true, .row 0 (r : List Int) Bool.false]))))
      (
      K (.tup [.row 2, vb (Bool.true)]) [.row 3 (l : List Go.Rx.Ev) Bool.true, .row 0 (o : List Int) Bool.true, .row 0 (r : List Int) Bool.false])) := by
  kernel_rfl

theorem nf29 (l : List Ev) (o : List Int) (K : V → Heap → Prop) : (exF cfg29 Try.f29 [.row 0, .row 1] [.row 3 l true, .row 0 o true] K) = (
    ((
      (Nat.le (List.length l) 100000)) ∧ (
      ((
        (Nat.le (List.length o) 100000)) ∧ (
        ((
          ∀ r, (
            ((Go.Rx.rankM l o = Option.some r) → (
              Loop cfg29 (⟨56, 2⟩ : Cx) (at_ (bodyOf Try.f29) [1, 1, 1, 0, 1, 0, 0])  (mkEnv [(0, .row 0), (1, .row 1), (5, .row 2), (19, .row 1), (20, vi ((↑(List.length o) : Int))), (21, vi (0))]) [.row 3 (l : List Go.Rx.Ev) Bool.true, .row 0 (o : List Int) Bool.true, .row 0 (r : List Int) Bool.false] (contK cfg29 (⟨56, 2⟩ : Cx) (bodyOf Try.f29) [1, 1, 1, 0, 1, 0] (retK cfg29 Try.f29 2 K)))))) ∧ (
          ((Go.Rx.rankM l o = Option.none) → (
            K (vi (2)) [.row 3 (l : List Go.Rx.Ev) Bool.true, .row 0 (o : List Int) Bool.true]))))))))) := by
  kernel_rfl

theorem nf29r (l : List Ev) (o : List Int) (r : List Int) (n i : Int) (K : V → Heap → Prop) (J : Env → Heap → Prop) : (ex cfg29 (⟨56, 2⟩ : Cx) (at_ (bodyOf Try.f29) [1, 1, 1, 0, 1, 0, 0]) (mkEnv [(0, .row 0), (1, .row 1), (5, .row 2), (19, .row 1), (20, vi n), (21, vi i)]) [.row 3 l true, .row 0 o true, .row 0 r false] (roundK cfg29 (⟨56, 2⟩ : Cx) (at_ (bodyOf Try.f29) [1, 1, 1, 0, 1, 0, 0]) (contK cfg29 (⟨56, 2⟩ : Cx) (bodyOf Try.f29) [1, 1, 1, 0, 1, 0] (retK cfg29 Try.f29 2 K)) J)) = (
    br (Decidable.decide (i < n))
      (
      Req (Go.Rx.inR i (List.length o))
        (
        Req (Go.Rx.inR (Go.Rx.offs i 0) (List.length o))
          (
          Req (Decidable.decide (0 ≤ i ∧ i ≤ (↑(List.length o) : Int)))
            (
            Loop cfg29 (⟨56, 2⟩ : Cx) (at_ (bodyOf Try.f29) [1, 1, 1, 0, 1, 0, 0, 1, 1, 0, 0, 1, 1, 0, 0])  (mkEnv [(0, .row 0), (1, .row 1), (5, .row 2), (19, .row 1), (20, vi (n)), (21, vi (i)), (7, vi (i)), (8, vi (List.getD o (Int.toNat (Go.Rx.offs i 0)) 0)), (28, .sub 1 (0) (Int.toNat i) 1), (29, vi ((↑(Int.toNat i) : Int))), (30, vi (0))]) [.row 3 (l : List Go.Rx.Ev) Bool.true, .row 0 (o : List Int) Bool.true, .row 0 (r : List Int) Bool.false] (contK cfg29 (⟨56, 2⟩ : Cx) (at_ (bodyOf Try.f29) [1, 1, 1, 0, 1, 0, 0]) [1, 1, 0, 0, 1, 1, 0] (roundK cfg29 (⟨56, 2⟩ : Cx) (at_ (bodyOf Try.f29) [1, 1, 1, 0, 1, 0, 0]) (contK cfg29 (⟨56, 2⟩ : Cx) (bodyOf Try.f29) [1, 1, 1, 0, 1, 0] (retK cfg29 Try.f29 2 K)) J))))))
      (
      K (vi (0)) [.row 3 (l : List Go.Rx.Ev) Bool.true, .row 0 (o : List Int) Bool.true])) := by
  kernel_rfl

theorem nf29i (l : List Ev) (o : List Int) (r : List Int) (n i i2 p n2 j : Int) (m : Nat) (K : V → Heap → Prop) (J J2 : Env → Heap → Prop) : (ex cfg29 (⟨56, 2⟩ : Cx) (at_ (bodyOf Try.f29) [1, 1, 1, 0, 1, 0, 0, 1, 1, 0, 0, 1, 1, 0, 0]) (mkEnv [(0, .row 0), (1, .row 1), (5, .row 2), (19, .row 1), (20, vi n), (21, vi i), (7, vi i2), (8, vi p), (28, .sub 1 0 m 1), (29, vi n2), (30, vi j)]) [.row 3 l true, .row 0 o true, .row 0 r false] (roundK cfg29 (⟨56, 2⟩ : Cx) (at_ (bodyOf Try.f29) [1, 1, 1, 0, 1, 0, 0, 1, 1, 0, 0, 1, 1, 0, 0]) (contK cfg29 (⟨56, 2⟩ : Cx) (at_ (bodyOf Try.f29) [1, 1, 1, 0, 1, 0, 0]) [1, 1, 0, 0, 1, 1, 0] (roundK cfg29 (⟨56, 2⟩ : Cx) (at_ (bodyOf Try.f29) [1, 1, 1, 0, 1, 0, 0]) (contK cfg29 (⟨56, 2⟩ : Cx) (bodyOf Try.f29) [1, 1, 1, 0, 1, 0] (retK cfg29 Try.f29 2 K)) J)) J2)) = (
    br (Decidable.decide (j < n2))
      (
      Req (Decidable.decide (0 + m ≤ List.length o))
        (
        Req (Go.Rx.inR j m)
          (
          Req (Go.Rx.inR (Go.Rx.offs j 0) (List.length o))
            (
            Req (Go.Rx.inR p (List.length l))
              (
              Req (Go.Rx.inR (Go.Rx.offs p 0) (List.length l))
                (
                Req (Go.Rx.inR (List.getD o (Int.toNat (Go.Rx.offs j 0)) 0) (List.length l))
                  (
                  Req (Go.Rx.inR (Go.Rx.offs (List.getD o (Int.toNat (Go.Rx.offs j 0)) 0) 0) (List.length l))
                    (
                    br (Go.Rx.aheadM (List.getD l (Int.toNat (Go.Rx.offs p 0)) Go.Rx.dEv) (List.getD l (Int.toNat (Go.Rx.offs (List.getD o (Int.toNat (Go.Rx.offs j 0)) 0) 0)) Go.Rx.dEv))
                      (
                      Req (Go.Rx.inR (List.getD o (Int.toNat (Go.Rx.offs j 0)) 0) (List.length r))
                        (
                        Req (Go.Rx.inR (Go.Rx.offs (List.getD o (Int.toNat (Go.Rx.offs j 0)) 0) 0) (List.length r))
                          (
                          Req (Go.Rx.inR p (List.length r))
                            (
                            Req (Go.Rx.inR (Go.Rx.offs p 0) (List.length r))
                              (
                              br (Decidable.decide (List.getD r (Int.toNat (Go.Rx.offs (List.getD o (Int.toNat (Go.Rx.offs j 0)) 0) 0)) 0 < List.getD r (Int.toNat (Go.Rx.offs p 0)) 0))
                                (
                                K (vi (17)) [.row 3 (l : List Go.Rx.Ev) Bool.true, .row 0 (o : List Int) Bool.true])
                                (
                                J2 (mkEnv [(0, .row 0), (1, .row 1), (5, .row 2), (19, .row 1), (20, vi (n)), (21, vi (i)), (7, vi (i2)), (8, vi (p)), (28, .sub 1 (0) (m) 1), (29, vi (n2)), (30, vi (Go.IntKind.wrap Go.IntKind.i64 (j + 1)))]) [.row 3 (l : List Go.Rx.Ev) Bool.true, .row 0 (o : List Int) Bool.true, .row 0 (r : List Int) Bool.false]))))))
                      (
                      J2 (mkEnv [(0, .row 0), (1, .row 1), (5, .row 2), (19, .row 1), (20, vi (n)), (21, vi (i)), (7, vi (i2)), (8, vi (p)), (28, .sub 1 (0) (m) 1), (29, vi (n2)), (30, vi (Go.IntKind.wrap Go.IntKind.i64 (j + 1)))]) [.row 3 (l : List Go.Rx.Ev) Bool.true, .row 0 (o : List Int) Bool.true, .row 0 (r : List Int) Bool.false])))))))))
      (
      J (mkEnv [(0, .row 0), (1, .row 1), (5, .row 2), (19, .row 1), (20, vi (n)), (21, vi (Go.IntKind.wrap Go.IntKind.i64 (i + 1)))]) [.row 3 (l : List Go.Rx.Ev) Bool.true, .row 0 (o : List Int) Bool.true, .row 0 (r : List Int) Bool.false])) := by
  kernel_rfl

end Go.Rx
