/- Normal forms of the program's code (by a program of this session's; the kernel checks each). -/
import Derived.Test.YtimebkgadobpoaaC25b
namespace Go.Rx
open Go.Proofs
set_option maxRecDepth 100000
theorem nf33_34 (l : List Ev) (t : Int) (T : TypeId) (K : V → Heap → Prop) : (exF cfg33 Try.f33 [.row 0, .fn 34 [.ptr 1 0]] [.row 3 l true, .cells T [vi t]] K) = (
    Loop cfg33 (⟨24, 2⟩ : Cx) (at_ (bodyOf Try.f33) [1, 1, 0, 1, 0, 0])  (mkEnv [(0, .row 0), (1, .fn 34 [.ptr 1 0]), (5, .row 2), (8, .row 0), (9, vi ((↑(List.length l) : Int))), (10, vi (0))]) [.row 3 (l : List Go.Rx.Ev) Bool.true, .cells T [vi (t)], .row 0 ([] : List Int) Bool.false] (contK cfg33 (⟨24, 2⟩ : Cx) (bodyOf Try.f33) [1, 1, 0, 1, 0] (retK cfg33 Try.f33 2 K))) := by
  kernel_rfl

theorem nf33r_34 (l : List Ev) (t : Int) (T : TypeId) (o : List Int) (i : Int) (K : V → Heap → Prop) (J : Env → Heap → Prop) : (ex cfg33 (⟨24, 2⟩ : Cx) (at_ (bodyOf Try.f33) [1, 1, 0, 1, 0, 0]) (mkEnv [(0, .row 0), (1, .fn 34 [.ptr 1 0]), (5, .row 2), (8, .row 0), (9, vi (l.length : Int)), (10, vi i)]) [.row 3 l true, .cells T [vi t], .row 0 o false] (roundK cfg33 (⟨24, 2⟩ : Cx) (at_ (bodyOf Try.f33) [1, 1, 0, 1, 0, 0]) (contK cfg33 (⟨24, 2⟩ : Cx) (bodyOf Try.f33) [1, 1, 0, 1, 0] (retK cfg33 Try.f33 2 K)) J)) = (
    br (Decidable.decide (i < (↑(List.length l) : Int)))
      (
      Req (Go.Rx.inR i (List.length l))
        (
        Req (Go.Rx.inR (Go.Rx.offs i 0) (List.length l))
          (
          br (Go.Rx.pendM t (List.getD l (Int.toNat (Go.Rx.offs i 0)) Go.Rx.dEv))
            (
            Req (Decidable.decide (List.length o + 1 ≤ 1048576))
              (
              J (mkEnv [(0, .row 0), (1, .fn 34 [.ptr 1 0]), (5, .row 2), (8, .row 0), (9, vi ((↑(List.length l) : Int))), (10, vi (Go.IntKind.wrap Go.IntKind.i64 (i + 1)))]) [.row 3 (l : List Go.Rx.Ev) Bool.true, .cells T [vi (t)], .row 0 (o ++ [i] : List Int) Bool.false]))
            (
            J (mkEnv [(0, .row 0), (1, .fn 34 [.ptr 1 0]), (5, .row 2), (8, .row 0), (9, vi ((↑(List.length l) : Int))), (10, vi (Go.IntKind.wrap Go.IntKind.i64 (i + 1)))]) [.row 3 (l : List Go.Rx.Ev) Bool.true, .cells T [vi (t)], .row 0 (o : List Int) Bool.false]))))
      (
      K (.row 2) [.row 3 (l : List Go.Rx.Ev) Bool.true, .cells T [vi (t)], .row 0 (o : List Int) Bool.false])) := by
  kernel_rfl

theorem nf33_37 (l : List Ev) (t : Int) (T : TypeId) (K : V → Heap → Prop) : (exF cfg33 Try.f33 [.row 0, .fn 37 [.ptr 1 0]] [.row 3 l true, .cells T [vi t]] K) = (
    Loop cfg33 (⟨24, 2⟩ : Cx) (at_ (bodyOf Try.f33) [1, 1, 0, 1, 0, 0])  (mkEnv [(0, .row 0), (1, .fn 37 [.ptr 1 0]), (5, .row 2), (8, .row 0), (9, vi ((↑(List.length l) : Int))), (10, vi (0))]) [.row 3 (l : List Go.Rx.Ev) Bool.true, .cells T [vi (t)], .row 0 ([] : List Int) Bool.false] (contK cfg33 (⟨24, 2⟩ : Cx) (bodyOf Try.f33) [1, 1, 0, 1, 0] (retK cfg33 Try.f33 2 K))) := by
  kernel_rfl

theorem nf33r_37 (l : List Ev) (t : Int) (T : TypeId) (o : List Int) (i : Int) (K : V → Heap → Prop) (J : Env → Heap → Prop) : (ex cfg33 (⟨24, 2⟩ : Cx) (at_ (bodyOf Try.f33) [1, 1, 0, 1, 0, 0]) (mkEnv [(0, .row 0), (1, .fn 37 [.ptr 1 0]), (5, .row 2), (8, .row 0), (9, vi (l.length : Int)), (10, vi i)]) [.row 3 l true, .cells T [vi t], .row 0 o false] (roundK cfg33 (⟨24, 2⟩ : Cx) (at_ (bodyOf Try.f33) [1, 1, 0, 1, 0, 0]) (contK cfg33 (⟨24, 2⟩ : Cx) (bodyOf Try.f33) [1, 1, 0, 1, 0] (retK cfg33 Try.f33 2 K)) J)) = (
    br (Decidable.decide (i < (↑(List.length l) : Int)))
      (
      Req (Go.Rx.inR i (List.length l))
        (
        Req (Go.Rx.inR (Go.Rx.offs i 0) (List.length l))
          (
          br (Go.Rx.ofM t (List.getD l (Int.toNat (Go.Rx.offs i 0)) Go.Rx.dEv))
            (
            Req (Decidable.decide (List.length o + 1 ≤ 1048576))
              (
              J (mkEnv [(0, .row 0), (1, .fn 37 [.ptr 1 0]), (5, .row 2), (8, .row 0), (9, vi ((↑(List.length l) : Int))), (10, vi (Go.IntKind.wrap Go.IntKind.i64 (i + 1)))]) [.row 3 (l : List Go.Rx.Ev) Bool.true, .cells T [vi (t)], .row 0 (o ++ [i] : List Int) Bool.false]))
            (
            J (mkEnv [(0, .row 0), (1, .fn 37 [.ptr 1 0]), (5, .row 2), (8, .row 0), (9, vi ((↑(List.length l) : Int))), (10, vi (Go.IntKind.wrap Go.IntKind.i64 (i + 1)))]) [.row 3 (l : List Go.Rx.Ev) Bool.true, .cells T [vi (t)], .row 0 (o : List Int) Bool.false]))))
      (
      K (.row 2) [.row 3 (l : List Go.Rx.Ev) Bool.true, .cells T [vi (t)], .row 0 (o : List Int) Bool.false])) := by
  kernel_rfl

theorem nf17 (l : List Ev) (t : Int) (K : V → Heap → Prop) : (exF cfg17 Try.f17 [.row 0, vi t] [.row 3 l true] K) = (
    Loop cfg17 (⟨42, 1⟩ : Cx) (at_ (bodyOf Try.f17) [1, 1, 0, 1, 0, 0])  (mkEnv [(0, .row 0), (1, vi (t)), (5, .row 1), (6, vi (0))]) [.row 3 (l : List Go.Rx.Ev) Bool.true, .row 0 ([] : List Int) Bool.false] (contK cfg17 (⟨42, 1⟩ : Cx) (bodyOf Try.f17) [1, 1, 0, 1, 0] (retK cfg17 Try.f17 1 K))) := by
  kernel_rfl

theorem nf17r (l : List Ev) (t : Int) (o : List Int) (i : Int) (K : V → Heap → Prop) (J : Env → Heap → Prop) : (ex cfg17 (⟨42, 1⟩ : Cx) (at_ (bodyOf Try.f17) [1, 1, 0, 1, 0, 0]) (mkEnv [(0, .row 0), (1, vi t), (5, .row 1), (6, vi i)]) [.row 3 l true, .row 0 o false] (roundK cfg17 (⟨42, 1⟩ : Cx) (at_ (bodyOf Try.f17) [1, 1, 0, 1, 0, 0]) (contK cfg17 (⟨42, 1⟩ : Cx) (bodyOf Try.f17) [1, 1, 0, 1, 0] (retK cfg17 Try.f17 1 K)) J)) = (
    br (Decidable.decide (i < (↑(List.length l) : Int)))
      (
      Req (Go.Rx.inR i (List.length l))
        (
        Req (Go.Rx.inR (Go.Rx.offs i 0) (List.length l))
          (
          br (Decidable.decide (Go.Rx.Ev.Begin (List.getD l (Int.toNat (Go.Rx.offs i 0)) Go.Rx.dEv) ≤ t))
            (
            Req (Go.Rx.inR i (List.length l))
              (
              Req (Go.Rx.inR (Go.Rx.offs i 0) (List.length l))
                (
                br (Go.Rx.Ev.Done (List.getD l (Int.toNat (Go.Rx.offs i 0)) Go.Rx.dEv))
                  (
                  Req (Go.Rx.inR i (List.length l))
                    (
                    Req (Go.Rx.inR (Go.Rx.offs i 0) (List.length l))
                      (
                      br (!Decidable.decide (Go.Rx.Ev.End (List.getD l (Int.toNat (Go.Rx.offs i 0)) Go.Rx.dEv) ≤ t))
                        (
                        Req (Decidable.decide (List.length o + 1 ≤ 1048576))
                          (
                          J (mkEnv [(0, .row 0), (1, vi (t)), (5, .row 1), (6, vi (Go.IntKind.wrap Go.IntKind.i64 (i + 1)))]) [.row 3 (l : List Go.Rx.Ev) Bool.true, .row 0 (o ++ [i] : List Int) Bool.false]))
                        (
                        J (mkEnv [(0, .row 0), (1, vi (t)), (5, .row 1), (6, vi (Go.IntKind.wrap Go.IntKind.i64 (i + 1)))]) [.row 3 (l : List Go.Rx.Ev) Bool.true, .row 0 (o : List Int) Bool.false]))))
                  (
                  Req (Decidable.decide (List.length o + 1 ≤ 1048576))
                    (
                    J (mkEnv [(0, .row 0), (1, vi (t)), (5, .row 1), (6, vi (Go.IntKind.wrap Go.IntKind.i64 (i + 1)))]) [.row 3 (l : List Go.Rx.Ev) Bool.true, .row 0 (o ++ [i] : List Int) Bool.false])))))
            (
            J (mkEnv [(0, .row 0), (1, vi (t)), (5, .row 1), (6, vi (Go.IntKind.wrap Go.IntKind.i64 (i + 1)))]) [.row 3 (l : List Go.Rx.Ev) Bool.true, .row 0 (o : List Int) Bool.false]))))
      (
      K (.row 1) [.row 3 (l : List Go.Rx.Ev) Bool.true, .row 0 (o : List Int) Bool.false])) := by
  kernel_rfl

theorem nf21 (l : List Ev) (t : Int) (K : V → Heap → Prop) : (exF cfg17 Try.f21 [.row 0, vi t] [.row 3 l true] K) = (
    Loop cfg17 (⟨25, 1⟩ : Cx) (at_ (bodyOf Try.f21) [1, 1, 0, 1, 0, 0])  (mkEnv [(0, .row 0), (1, vi (t)), (5, .row 1), (6, vi (0))]) [.row 3 (l : List Go.Rx.Ev) Bool.true, .row 0 ([] : List Int) Bool.false] (contK cfg17 (⟨25, 1⟩ : Cx) (bodyOf Try.f21) [1, 1, 0, 1, 0] (retK cfg17 Try.f21 1 K))) := by
  kernel_rfl

theorem nf21r (l : List Ev) (t : Int) (o : List Int) (i : Int) (K : V → Heap → Prop) (J : Env → Heap → Prop) : (ex cfg17 (⟨25, 1⟩ : Cx) (at_ (bodyOf Try.f21) [1, 1, 0, 1, 0, 0]) (mkEnv [(0, .row 0), (1, vi t), (5, .row 1), (6, vi i)]) [.row 3 l true, .row 0 o false] (roundK cfg17 (⟨25, 1⟩ : Cx) (at_ (bodyOf Try.f21) [1, 1, 0, 1, 0, 0]) (contK cfg17 (⟨25, 1⟩ : Cx) (bodyOf Try.f21) [1, 1, 0, 1, 0] (retK cfg17 Try.f21 1 K)) J)) = (
    br (Decidable.decide (i < (↑(List.length l) : Int)))
      (
      Req (Go.Rx.inR i (List.length l))
        (
        Req (Go.Rx.inR (Go.Rx.offs i 0) (List.length l))
          (
          br (Go.Rx.Ev.Worker (List.getD l (Int.toNat (Go.Rx.offs i 0)) Go.Rx.dEv) == t)
            (
            Req (Decidable.decide (List.length o + 1 ≤ 1048576))
              (
              J (mkEnv [(0, .row 0), (1, vi (t)), (5, .row 1), (6, vi (Go.IntKind.wrap Go.IntKind.i64 (i + 1)))]) [.row 3 (l : List Go.Rx.Ev) Bool.true, .row 0 (o ++ [i] : List Int) Bool.false]))
            (
            J (mkEnv [(0, .row 0), (1, vi (t)), (5, .row 1), (6, vi (Go.IntKind.wrap Go.IntKind.i64 (i + 1)))]) [.row 3 (l : List Go.Rx.Ev) Bool.true, .row 0 (o : List Int) Bool.false]))))
      (
      K (.row 1) [.row 3 (l : List Go.Rx.Ev) Bool.true, .row 0 (o : List Int) Bool.false])) := by
  kernel_rfl

theorem nf22 (l : List Ev) (K : V → Heap → Prop) : (exF cfg22 Try.f22 [.row 0] [.row 3 l true] K) = (
    br ((↑(List.length l) : Int) == 0)
      (
      K (vi (0)) [.row 3 (l : List Go.Rx.Ev) Bool.true])
      (
      Req (Go.Rx.inR 0 (List.length l))
        (
        Req (Go.Rx.inR (Go.Rx.offs 0 0) (List.length l))
          (
          Loop cfg22 (⟨31, 1⟩ : Cx) (at_ (bodyOf Try.f22) [1, 1, 1, 0, 1, 0, 0])  (mkEnv [(3, vi (Go.Rx.Ev.Begin (List.getD l 0 Go.Rx.dEv))), (13, .row 0), (14, vi ((↑(List.length l) : Int))), (15, vi (0))]) [.row 3 (l : List Go.Rx.Ev) Bool.true] (contK cfg22 (⟨31, 1⟩ : Cx) (bodyOf Try.f22) [1, 1, 1, 0, 1, 0] (retK cfg22 Try.f22 1 K)))))) := by
  kernel_rfl

theorem nf22r (l : List Ev) (n : Int) (i : Int) (K : V → Heap → Prop) (J : Env → Heap → Prop) : (ex cfg22 (⟨31, 1⟩ : Cx) (at_ (bodyOf Try.f22) [1, 1, 1, 0, 1, 0, 0]) (mkEnv [(3, vi n), (13, .row 0), (14, vi (l.length : Int)), (15, vi i)]) [.row 3 l true] (roundK cfg22 (⟨31, 1⟩ : Cx) (at_ (bodyOf Try.f22) [1, 1, 1, 0, 1, 0, 0]) (contK cfg22 (⟨31, 1⟩ : Cx) (bodyOf Try.f22) [1, 1, 1, 0, 1, 0] (retK cfg22 Try.f22 1 K)) J)) = (
    br (Decidable.decide (i < (↑(List.length l) : Int)))
      (
      Req (Go.Rx.inR i (List.length l))
        (
        Req (Go.Rx.inR (Go.Rx.offs i 0) (List.length l))
          (
          br (Go.Rx.Ev.Done (List.getD l (Int.toNat (Go.Rx.offs i 0)) Go.Rx.dEv))
            (
            J (mkEnv [(3, vi (if Go.Rx.Ev.End (List.getD l (Int.toNat (Go.Rx.offs i (0 : Nat))) Go.Rx.dEv) > if Go.Rx.Ev.Begin (List.getD l (Int.toNat (Go.Rx.offs i (0 : Nat))) Go.Rx.dEv) > n then Go.Rx.Ev.Begin (List.getD l (Int.toNat (Go.Rx.offs i (0 : Nat))) Go.Rx.dEv) else n then Go.Rx.Ev.End (List.getD l (Int.toNat (Go.Rx.offs i (0 : Nat))) Go.Rx.dEv) else if Go.Rx.Ev.Begin (List.getD l (Int.toNat (Go.Rx.offs i (0 : Nat))) Go.Rx.dEv) > n then Go.Rx.Ev.Begin (List.getD l (Int.toNat (Go.Rx.offs i (0 : Nat))) Go.Rx.dEv) else n)), (13, .row 0), (14, vi ((↑(List.length l) : Int))), (15, vi (Go.IntKind.wrap Go.IntKind.i64 (i + 1)))]) [.row 3 (l : List Go.Rx.Ev) Bool.true])
            (
            J (mkEnv [(3, vi (if Go.Rx.Ev.Begin (List.getD l (Int.toNat (Go.Rx.offs i (0 : Nat))) Go.Rx.dEv) > n then Go.Rx.Ev.Begin (List.getD l (Int.toNat (Go.Rx.offs i (0 : Nat))) Go.Rx.dEv) else n)), (13, .row 0), (14, vi ((↑(List.length l) : Int))), (15, vi (Go.IntKind.wrap Go.IntKind.i64 (i + 1)))]) [.row 3 (l : List Go.Rx.Ev) Bool.true]))))
      (
      K (vi (n)) [.row 3 (l : List Go.Rx.Ev) Bool.true])) := by
  kernel_rfl

theorem nf23 (l : List Ev) (K : V → Heap → Prop) : (exF cfg23 Try.f23 [.row 0] [.row 3 l true] K) = (
    Loop cfg23 (⟨47, 1⟩ : Cx) (at_ (bodyOf Try.f23) [1, 1, 0, 1, 0, 0])  (mkEnv [(0, .row 0), (3, vi (0)), (4, vi (0))]) [.row 3 (l : List Go.Rx.Ev) Bool.true] (contK cfg23 (⟨47, 1⟩ : Cx) (bodyOf Try.f23) [1, 1, 0, 1, 0] (retK cfg23 Try.f23 1 K))) := by
  kernel_rfl

theorem nf23r (l : List Ev) (n : Int) (i : Int) (K : V → Heap → Prop) (J : Env → Heap → Prop) : (ex cfg23 (⟨47, 1⟩ : Cx) (at_ (bodyOf Try.f23) [1, 1, 0, 1, 0, 0]) (mkEnv [(0, .row 0), (3, vi n), (4, vi i)]) [.row 3 l true] (roundK cfg23 (⟨47, 1⟩ : Cx) (at_ (bodyOf Try.f23) [1, 1, 0, 1, 0, 0]) (contK cfg23 (⟨47, 1⟩ : Cx) (bodyOf Try.f23) [1, 1, 0, 1, 0] (retK cfg23 Try.f23 1 K)) J)) = (
    br (Decidable.decide (i < (↑(List.length l) : Int)))
      (
      br (i == 0)
        (
        Req (Go.Rx.inR i (List.length l))
          (
          Req (Go.Rx.inR (Go.Rx.offs i 0) (List.length l))
            (
            Req (Go.Rx.inR i (List.length l))
              (
              Req (Go.Rx.inR (Go.Rx.offs i 0) (List.length l))
                (
                br (Go.Rx.Ev.Done (List.getD l (Int.toNat (Go.Rx.offs i 0)) Go.Rx.dEv))
                  (
                  Req (Go.Rx.inR i (List.length l))
                    (
                    Req (Go.Rx.inR (Go.Rx.offs i 0) (List.length l))
                      (
                      br (Decidable.decide (Go.Rx.Ev.End (List.getD l (Int.toNat (Go.Rx.offs i 0)) Go.Rx.dEv) > Go.Rx.Ev.Begin (List.getD l (Int.toNat (Go.Rx.offs i 0)) Go.Rx.dEv)))
                        (
                        Req (Go.Rx.inR i (List.length l))
                          (
                          Req (Go.Rx.inR (Go.Rx.offs i 0) (List.length l))
                            (
                            J (mkEnv [(0, .row 0), (3, vi (Go.Rx.Ev.End (List.getD l (Int.toNat (Go.Rx.offs i 0)) Go.Rx.dEv))), (4, vi (Go.IntKind.wrap Go.IntKind.i64 (i + 1)))]) [.row 3 (l : List Go.Rx.Ev) Bool.true])))
                        (
                        J (mkEnv [(0, .row 0), (3, vi (Go.Rx.Ev.Begin (List.getD l (Int.toNat (Go.Rx.offs i 0)) Go.Rx.dEv))), (4, vi (Go.IntKind.wrap Go.IntKind.i64 (i + 1)))]) [.row 3 (l : List Go.Rx.Ev) Bool.true]))))
                  (
                  J (mkEnv [(0, .row 0), (3, vi (Go.Rx.Ev.Begin (List.getD l (Int.toNat (Go.Rx.offs i 0)) Go.Rx.dEv))), (4, vi (Go.IntKind.wrap Go.IntKind.i64 (i + 1)))]) [.row 3 (l : List Go.Rx.Ev) Bool.true]))))))
        (
        Req (Go.Rx.inR i (List.length l))
          (
          Req (Go.Rx.inR (Go.Rx.offs i 0) (List.length l))
            (
            br (Decidable.decide (Go.Rx.Ev.Begin (List.getD l (Int.toNat (Go.Rx.offs i 0)) Go.Rx.dEv) > n))
              (
              Req (Go.Rx.inR i (List.length l))
                (
                Req (Go.Rx.inR (Go.Rx.offs i 0) (List.length l))
                  (
                  Req (Go.Rx.inR i (List.length l))
                    (
                    Req (Go.Rx.inR (Go.Rx.offs i 0) (List.length l))
                      (
                      br (Go.Rx.Ev.Done (List.getD l (Int.toNat (Go.Rx.offs i 0)) Go.Rx.dEv))
                        (
                        Req (Go.Rx.inR i (List.length l))
                          (
                          Req (Go.Rx.inR (Go.Rx.offs i 0) (List.length l))
                            (
                            br (Decidable.decide (Go.Rx.Ev.End (List.getD l (Int.toNat (Go.Rx.offs i 0)) Go.Rx.dEv) > Go.Rx.Ev.Begin (List.getD l (Int.toNat (Go.Rx.offs i 0)) Go.Rx.dEv)))
                              (
                              Req (Go.Rx.inR i (List.length l))
                                (
                                Req (Go.Rx.inR (Go.Rx.offs i 0) (List.length l))
                                  (
                                  J (mkEnv [(0, .row 0), (3, vi (Go.Rx.Ev.End (List.getD l (Int.toNat (Go.Rx.offs i 0)) Go.Rx.dEv))), (4, vi (Go.IntKind.wrap Go.IntKind.i64 (i + 1)))]) [.row 3 (l : List Go.Rx.Ev) Bool.true])))
                              (
                              J (mkEnv [(0, .row 0), (3, vi (Go.Rx.Ev.Begin (List.getD l (Int.toNat (Go.Rx.offs i 0)) Go.Rx.dEv))), (4, vi (Go.IntKind.wrap Go.IntKind.i64 (i + 1)))]) [.row 3 (l : List Go.Rx.Ev) Bool.true]))))
                        (
                        J (mkEnv [(0, .row 0), (3, vi (Go.Rx.Ev.Begin (List.getD l (Int.toNat (Go.Rx.offs i 0)) Go.Rx.dEv))), (4, vi (Go.IntKind.wrap Go.IntKind.i64 (i + 1)))]) [.row 3 (l : List Go.Rx.Ev) Bool.true]))))))
              (
              Req (Go.Rx.inR i (List.length l))
                (
                Req (Go.Rx.inR (Go.Rx.offs i 0) (List.length l))
                  (
                  br (Go.Rx.Ev.Done (List.getD l (Int.toNat (Go.Rx.offs i 0)) Go.Rx.dEv))
                    (
                    Req (Go.Rx.inR i (List.length l))
                      (
                      Req (Go.Rx.inR (Go.Rx.offs i 0) (List.length l))
                        (
                        br (Decidable.decide (Go.Rx.Ev.End (List.getD l (Int.toNat (Go.Rx.offs i 0)) Go.Rx.dEv) > n))
                          (
                          Req (Go.Rx.inR i (List.length l))
                            (
                            Req (Go.Rx.inR (Go.Rx.offs i 0) (List.length l))
                              (
                              J (mkEnv [(0, .row 0), (3, vi (Go.Rx.Ev.End (List.getD l (Int.toNat (Go.Rx.offs i 0)) Go.Rx.dEv))), (4, vi (Go.IntKind.wrap Go.IntKind.i64 (i + 1)))]) [.row 3 (l : List Go.Rx.Ev) Bool.true])))
                          (
                          J (mkEnv [(0, .row 0), (3, vi (n)), (4, vi (Go.IntKind.wrap Go.IntKind.i64 (i + 1)))]) [.row 3 (l : List Go.Rx.Ev) Bool.true]))))
                    (
                    J (mkEnv [(0, .row 0), (3, vi (n)), (4, vi (Go.IntKind.wrap Go.IntKind.i64 (i + 1)))]) [.row 3 (l : List Go.Rx.Ev) Bool.true]))))))))
      (
      K (vi (n)) [.row 3 (l : List Go.Rx.Ev) Bool.true])) := by
  kernel_rfl

end Go.Rx
