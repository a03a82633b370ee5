/- Normal forms of the program's code (by a program of this session's; the kernel checks each). -/
import Derived.Test.YtimebkgadobpoaaC25c
namespace Go.Rx
open Go.Proofs
set_option maxRecDepth 100000
theorem nf12 (w : Int) (l : List Ev) (K : V → Heap → Prop) : (exF cfg12 Try.f12 [vi w, .row 0] [.row 3 l true] K) = (
    Loop cfg12 (⟨80, 1⟩ : Cx) (at_ (bodyOf Try.f12) [1, 1, 0, 1, 0, 0])  (mkEnv [(0, vi (w)), (1, .row 0), (5, Go.Rx.V.mp 1), (13, .row 0), (14, vi ((↑(List.length l) : Int))), (15, vi (0))]) [.row 3 (l : List Go.Rx.Ev) Bool.true, Go.Rx.Blk.map (fun x => Option.none) 0] (contK cfg12 (⟨80, 1⟩ : Cx) (bodyOf Try.f12) [1, 1, 0, 1, 0] (retK cfg12 Try.f12 1 K))) := by
  kernel_rfl

theorem nf12r (w : Int) (l : List Ev) (m : Int → Option Int) (n : Nat) (i : Int) (K : V → Heap → Prop) (J : Env → Heap → Prop) : (ex cfg12 (⟨80, 1⟩ : Cx) (at_ (bodyOf Try.f12) [1, 1, 0, 1, 0, 0]) (mkEnv [(0, vi w), (1, .row 0), (5, .mp 1), (13, .row 0), (14, vi (l.length : Int)), (15, vi i)]) [.row 3 l true, .map m n] (roundK cfg12 (⟨80, 1⟩ : Cx) (at_ (bodyOf Try.f12) [1, 1, 0, 1, 0, 0]) (contK cfg12 (⟨80, 1⟩ : Cx) (bodyOf Try.f12) [1, 1, 0, 1, 0] (retK cfg12 Try.f12 1 K)) J)) = (
    br (Decidable.decide (i < (↑(List.length l) : Int)))
      (
      Req (Go.Rx.inR i (List.length l))
        (
        Req (Go.Rx.inR (Go.Rx.offs i 0) (List.length l))
          (
          br (!Go.Rx.oneM w (List.getD l (Int.toNat (Go.Rx.offs i 0)) Go.Rx.dEv))
            (
            K (vb (Bool.false)) [.row 3 (l : List Go.Rx.Ev) Bool.true])
            (
            br (Decidable.decide (i > 0))
              (
              Req (Go.Rx.inR (Go.IntKind.wrap Go.IntKind.i64 (i - 1)) (List.length l))
                (
                Req (Go.Rx.inR (Go.Rx.offs (Go.IntKind.wrap Go.IntKind.i64 (i - 1)) 0) (List.length l))
                  (
                  br (Decidable.decide (Go.Rx.Ev.Begin (List.getD l (Int.toNat (Go.Rx.offs (Go.IntKind.wrap Go.IntKind.i64 (i - 1)) 0)) Go.Rx.dEv) ≥ Go.Rx.Ev.Begin (List.getD l (Int.toNat (Go.Rx.offs i 0)) Go.Rx.dEv)))
                    (
                    K (vb (Bool.false)) [.row 3 (l : List Go.Rx.Ev) Bool.true])
                    (
                    br (Decidable.decide (Option.getD (m (Go.Rx.Ev.Worker (List.getD l (Int.toNat (Go.Rx.offs i 0)) Go.Rx.dEv))) 0 > 0))
                      (
                      Req (Go.Rx.inR (Go.IntKind.wrap Go.IntKind.i64 (Option.getD (m (Go.Rx.Ev.Worker (List.getD l (Int.toNat (Go.Rx.offs i 0)) Go.Rx.dEv))) 0 - 1)) (List.length l))
                        (
                        Req (Go.Rx.inR (Go.Rx.offs (Go.IntKind.wrap Go.IntKind.i64 (Option.getD (m (Go.Rx.Ev.Worker (List.getD l (Int.toNat (Go.Rx.offs i 0)) Go.Rx.dEv))) 0 - 1)) 0) (List.length l))
                          (
                          br (!Go.Rx.aheadM (List.getD l (Int.toNat (Go.Rx.offs (Go.IntKind.wrap Go.IntKind.i64 (Option.getD (m (Go.Rx.Ev.Worker (List.getD l (Int.toNat (Go.Rx.offs i 0)) Go.Rx.dEv))) 0 - 1)) 0)) Go.Rx.dEv) (List.getD l (Int.toNat (Go.Rx.offs i 0)) Go.Rx.dEv))
                            (
                            K (vb (Bool.false)) [.row 3 (l : List Go.Rx.Ev) Bool.true])
                            (
                            J (mkEnv [(0, vi (w)), (1, .row 0), (5, Go.Rx.V.mp 1), (13, .row 0), (14, vi ((↑(List.length l) : Int))), (15, vi (Go.IntKind.wrap Go.IntKind.i64 (i + 1)))]) [.row 3 (l : List Go.Rx.Ev) Bool.true, Go.Rx.Blk.map (Go.Rx.mapSet m (Go.Rx.Ev.Worker (List.getD l (Int.toNat (Go.Rx.offs i 0)) Go.Rx.dEv)) (Go.IntKind.wrap Go.IntKind.i64 (i + 1))) (n + 1)]))))
                      (
                      J (mkEnv [(0, vi (w)), (1, .row 0), (5, Go.Rx.V.mp 1), (13, .row 0), (14, vi ((↑(List.length l) : Int))), (15, vi (Go.IntKind.wrap Go.IntKind.i64 (i + 1)))]) [.row 3 (l : List Go.Rx.Ev) Bool.true, Go.Rx.Blk.map (Go.Rx.mapSet m (Go.Rx.Ev.Worker (List.getD l (Int.toNat (Go.Rx.offs i 0)) Go.Rx.dEv)) (Go.IntKind.wrap Go.IntKind.i64 (i + 1))) (n + 1)])))))
              (
              br (Decidable.decide (Option.getD (m (Go.Rx.Ev.Worker (List.getD l (Int.toNat (Go.Rx.offs i 0)) Go.Rx.dEv))) 0 > 0))
                (
                Req (Go.Rx.inR (Go.IntKind.wrap Go.IntKind.i64 (Option.getD (m (Go.Rx.Ev.Worker (List.getD l (Int.toNat (Go.Rx.offs i 0)) Go.Rx.dEv))) 0 - 1)) (List.length l))
                  (
                  Req (Go.Rx.inR (Go.Rx.offs (Go.IntKind.wrap Go.IntKind.i64 (Option.getD (m (Go.Rx.Ev.Worker (List.getD l (Int.toNat (Go.Rx.offs i 0)) Go.Rx.dEv))) 0 - 1)) 0) (List.length l))
                    (
                    br (!Go.Rx.aheadM (List.getD l (Int.toNat (Go.Rx.offs (Go.IntKind.wrap Go.IntKind.i64 (Option.getD (m (Go.Rx.Ev.Worker (List.getD l (Int.toNat (Go.Rx.offs i 0)) Go.Rx.dEv))) 0 - 1)) 0)) Go.Rx.dEv) (List.getD l (Int.toNat (Go.Rx.offs i 0)) Go.Rx.dEv))
                      (
                      K (vb (Bool.false)) [.row 3 (l : List Go.Rx.Ev) Bool.true])
                      (
                      J (mkEnv [(0, vi (w)), (1, .row 0), (5, Go.Rx.V.mp 1), (13, .row 0), (14, vi ((↑(List.length l) : Int))), (15, vi (Go.IntKind.wrap Go.IntKind.i64 (i + 1)))]) [.row 3 (l : List Go.Rx.Ev) Bool.true, Go.Rx.Blk.map (Go.Rx.mapSet m (Go.Rx.Ev.Worker (List.getD l (Int.toNat (Go.Rx.offs i 0)) Go.Rx.dEv)) (Go.IntKind.wrap Go.IntKind.i64 (i + 1))) (n + 1)]))))
                (
                J (mkEnv [(0, vi (w)), (1, .row 0), (5, Go.Rx.V.mp 1), (13, .row 0), (14, vi ((↑(List.length l) : Int))), (15, vi (Go.IntKind.wrap Go.IntKind.i64 (i + 1)))]) [.row 3 (l : List Go.Rx.Ev) Bool.true, Go.Rx.Blk.map (Go.Rx.mapSet m (Go.Rx.Ev.Worker (List.getD l (Int.toNat (Go.Rx.offs i 0)) Go.Rx.dEv)) (Go.IntKind.wrap Go.IntKind.i64 (i + 1))) (n + 1)]))))))
      (
      Loop cfg12 (⟨80, 1⟩ : Cx) (at_ (bodyOf Try.f12) [1, 1, 1, 1, 0, 1, 0, 0])  (mkEnv [(0, vi (w)), (1, .row 0), (9, vi (0)), (62, .ptr 1 0)]) [.row 3 (l : List Go.Rx.Ev) Bool.true, Go.Rx.Blk.iter m (Go.Rx.mapHas m) n Option.none] (contK cfg12 (⟨80, 1⟩ : Cx) (bodyOf Try.f12) [1, 1, 1, 1, 0, 1, 0] (retK cfg12 Try.f12 1 K)))) := by
  kernel_rfl

theorem nf12s (w : Int) (l : List Ev) (m : Int → Option Int) (left : Int → Bool) (n : Nat) (cur : Option (Int × Int)) (o : Int) (K : V → Heap → Prop) (J : Env → Heap → Prop) : (ex cfg12 (⟨80, 1⟩ : Cx) (at_ (bodyOf Try.f12) [1, 1, 1, 1, 0, 1, 0, 0]) (mkEnv [(0, vi w), (1, .row 0), (9, vi o), (62, .ptr 1 0)]) [.row 3 l true, .iter m left n cur] (roundK cfg12 (⟨80, 1⟩ : Cx) (at_ (bodyOf Try.f12) [1, 1, 1, 1, 0, 1, 0, 0]) (contK cfg12 (⟨80, 1⟩ : Cx) (bodyOf Try.f12) [1, 1, 1, 1, 0, 1, 0] (retK cfg12 Try.f12 1 K)) J)) = (
    ((
      ∀ y0, (
        ∀ y1, (
          ((left y0 = Bool.true) → (
            ((m y0 = Option.some y1) → (
              ((Decidable.decide (0 < n) = Bool.true) → (
                Req (Go.Rx.inR (Go.IntKind.wrap Go.IntKind.i64 (y1 - 1)) (List.length l))
                  (
                  Req (Go.Rx.inR (Go.Rx.offs (Go.IntKind.wrap Go.IntKind.i64 (y1 - 1)) 0) (List.length l))
                    (
                    br (!Go.Rx.Ev.Done (List.getD l (Int.toNat (Go.Rx.offs (Go.IntKind.wrap Go.IntKind.i64 (y1 - 1)) 0)) Go.Rx.dEv))
                      (
                      J (mkEnv [(0, vi (w)), (1, .row 0), (9, vi (Go.IntKind.wrap Go.IntKind.i64 (o + 1))), (62, .ptr 1 0)]) [.row 3 (l : List Go.Rx.Ev) Bool.true, Go.Rx.Blk.iter m (Go.Rx.mapDrop left y0) (n - 1) (Option.some (y0, y1))])
                      (
                      J (mkEnv [(0, vi (w)), (1, .row 0), (9, vi (o)), (62, .ptr 1 0)]) [.row 3 (l : List Go.Rx.Ev) Bool.true, Go.Rx.Blk.iter m (Go.Rx.mapDrop left y0) (n - 1) (Option.some (y0, y1))])))))))))))) ∧ (
      ((∀ (a : Int), left a = Bool.false) → (
        K (vb (Decidable.decide (o ≤ if (0 : Int) > w then (0 : Int) else w))) [.row 3 (l : List Go.Rx.Ev) Bool.true]))))) := by
  kernel_rfl

theorem nf13 (w : Int) (l : List Ev) (K : V → Heap → Prop) : (exF cfg13 Try.f13 [vi w, .row 0] [.row 3 l true] K) = (
    Loop cfg13 (⟨66, 1⟩ : Cx) (at_ (bodyOf Try.f13) [1, 0, 1, 0, 0])  (mkEnv [(0, vi (w)), (1, .row 0), (5, vi (0))]) [.row 3 (l : List Go.Rx.Ev) Bool.true] (contK cfg13 (⟨66, 1⟩ : Cx) (bodyOf Try.f13) [1, 0, 1, 0] (retK cfg13 Try.f13 1 K))) := by
  kernel_rfl

theorem nf13r (w : Int) (l : List Ev) (i : Int) (K : V → Heap → Prop) (J : Env → Heap → Prop) : (ex cfg13 (⟨66, 1⟩ : Cx) (at_ (bodyOf Try.f13) [1, 0, 1, 0, 0]) (mkEnv [(0, vi w), (1, .row 0), (5, vi i)]) [.row 3 l true] (roundK cfg13 (⟨66, 1⟩ : Cx) (at_ (bodyOf Try.f13) [1, 0, 1, 0, 0]) (contK cfg13 (⟨66, 1⟩ : Cx) (bodyOf Try.f13) [1, 0, 1, 0] (retK cfg13 Try.f13 1 K)) J)) = (
    br (Decidable.decide (i < (↑(List.length l) : Int)))
      (
      Req (Go.Rx.inR i (List.length l))
        (
        Req (Go.Rx.inR (Go.Rx.offs i 0) (List.length l))
          (
          br (!Go.Rx.oneM w (List.getD l (Int.toNat (Go.Rx.offs i 0)) Go.Rx.dEv))
            (
            K (vb (Bool.false)) [.row 3 (l : List Go.Rx.Ev) Bool.true])
            (
            br (Decidable.decide (i > 0))
              (
              Req (Go.Rx.inR (Go.IntKind.wrap Go.IntKind.i64 (i - 1)) (List.length l))
                (
                Req (Go.Rx.inR (Go.Rx.offs (Go.IntKind.wrap Go.IntKind.i64 (i - 1)) 0) (List.length l))
                  (
                  Req (Go.Rx.inR i (List.length l))
                    (
                    Req (Go.Rx.inR (Go.Rx.offs i 0) (List.length l))
                      (
                      br (Decidable.decide (Go.Rx.Ev.Begin (List.getD l (Int.toNat (Go.Rx.offs (Go.IntKind.wrap Go.IntKind.i64 (i - 1)) 0)) Go.Rx.dEv) ≥ Go.Rx.Ev.Begin (List.getD l (Int.toNat (Go.Rx.offs i 0)) Go.Rx.dEv)))
                        (
                        K (vb (Bool.false)) [.row 3 (l : List Go.Rx.Ev) Bool.true])
                        (
                        Loop cfg13 (⟨66, 1⟩ : Cx) (at_ (bodyOf Try.f13) [1, 0, 1, 0, 0, 1, 0, 0, 1, 1, 0, 0])  (mkEnv [(0, vi (w)), (1, .row 0), (5, vi (i)), (6, vi (0))]) [.row 3 (l : List Go.Rx.Ev) Bool.true] (contK cfg13 (⟨66, 1⟩ : Cx) (at_ (bodyOf Try.f13) [1, 0, 1, 0, 0]) [1, 0, 0, 1, 1, 0] (roundK cfg13 (⟨66, 1⟩ : Cx) (at_ (bodyOf Try.f13) [1, 0, 1, 0, 0]) (contK cfg13 (⟨66, 1⟩ : Cx) (bodyOf Try.f13) [1, 0, 1, 0] (retK cfg13 Try.f13 1 K)) J))))))))
              (
              Loop cfg13 (⟨66, 1⟩ : Cx) (at_ (bodyOf Try.f13) [1, 0, 1, 0, 0, 1, 0, 0, 1, 1, 0, 0])  (mkEnv [(0, vi (w)), (1, .row 0), (5, vi (i)), (6, vi (0))]) [.row 3 (l : List Go.Rx.Ev) Bool.true] (contK cfg13 (⟨66, 1⟩ : Cx) (at_ (bodyOf Try.f13) [1, 0, 1, 0, 0]) [1, 0, 0, 1, 1, 0] (roundK cfg13 (⟨66, 1⟩ : Cx) (at_ (bodyOf Try.f13) [1, 0, 1, 0, 0]) (contK cfg13 (⟨66, 1⟩ : Cx) (bodyOf Try.f13) [1, 0, 1, 0] (retK cfg13 Try.f13 1 K)) J)))))))
      (
      K (vb (Bool.true)) [.row 3 (l : List Go.Rx.Ev) Bool.true])) := by
  kernel_rfl

theorem nf13i (w : Int) (l : List Ev) (i k : Int) (K : V → Heap → Prop) (J J2 : Env → Heap → Prop) : (ex cfg13 (⟨66, 1⟩ : Cx) (at_ (bodyOf Try.f13) [1, 0, 1, 0, 0, 1, 0, 0, 1, 1, 0, 0]) (mkEnv [(0, vi w), (1, .row 0), (5, vi i), (6, vi k)]) [.row 3 l true] (roundK cfg13 (⟨66, 1⟩ : Cx) (at_ (bodyOf Try.f13) [1, 0, 1, 0, 0, 1, 0, 0, 1, 1, 0, 0]) (contK cfg13 (⟨66, 1⟩ : Cx) (at_ (bodyOf Try.f13) [1, 0, 1, 0, 0]) [1, 0, 0, 1, 1, 0] (roundK cfg13 (⟨66, 1⟩ : Cx) (at_ (bodyOf Try.f13) [1, 0, 1, 0, 0]) (contK cfg13 (⟨66, 1⟩ : Cx) (bodyOf Try.f13) [1, 0, 1, 0] (retK cfg13 Try.f13 1 K)) J)) J2)) = (
    br (Decidable.decide (k < i))
      (
      Req (Go.Rx.inR k (List.length l))
        (
        Req (Go.Rx.inR (Go.Rx.offs k 0) (List.length l))
          (
          Req (Go.Rx.inR i (List.length l))
            (
            Req (Go.Rx.inR (Go.Rx.offs i 0) (List.length l))
              (
              br (Go.Rx.Ev.Worker (List.getD l (Int.toNat (Go.Rx.offs k 0)) Go.Rx.dEv) == Go.Rx.Ev.Worker (List.getD l (Int.toNat (Go.Rx.offs i 0)) Go.Rx.dEv))
                (
                Req (Go.Rx.inR k (List.length l))
                  (
                  Req (Go.Rx.inR (Go.Rx.offs k 0) (List.length l))
                    (
                    Req (Go.Rx.inR i (List.length l))
                      (
                      Req (Go.Rx.inR (Go.Rx.offs i 0) (List.length l))
                        (
                        br (!Go.Rx.aheadM (List.getD l (Int.toNat (Go.Rx.offs k 0)) Go.Rx.dEv) (List.getD l (Int.toNat (Go.Rx.offs i 0)) Go.Rx.dEv))
                          (
                          K (vb (Bool.false)) [.row 3 (l : List Go.Rx.Ev) Bool.true])
                          (
                          J2 (mkEnv [(0, vi (w)), (1, .row 0), (5, vi (i)), (6, vi (Go.IntKind.wrap Go.IntKind.i64 (k + 1)))]) [.row 3 (l : List Go.Rx.Ev) Bool.true]))))))
                (
                J2 (mkEnv [(0, vi (w)), (1, .row 0), (5, vi (i)), (6, vi (Go.IntKind.wrap Go.IntKind.i64 (k + 1)))]) [.row 3 (l : List Go.Rx.Ev) Bool.true]))))))
      (
      J (mkEnv [(0, vi (w)), (1, .row 0), (5, vi (Go.IntKind.wrap Go.IntKind.i64 (i + 1)))]) [.row 3 (l : List Go.Rx.Ev) Bool.true])) := by
  kernel_rfl

theorem nf14 (t : Int) (l : List Ev) (K : V → Heap → Prop) : (exF cfg14 Try.f14 [.row 0, vi t] [.row 3 l true] K) = (
    ((
      (Nat.le (List.length l) 1048576)) ∧ (
      K (.row 1) [.row 3 (l : List Go.Rx.Ev) Bool.true, .row 0 (Go.Rx.posM (Go.Rx.pendM t) l : List Int) Bool.false]))) := by
  kernel_rfl

theorem nf20 (t : Int) (l : List Ev) (K : V → Heap → Prop) : (exF cfg14 Try.f20 [.row 0, vi t] [.row 3 l true] K) = (
    ((
      (Nat.le (List.length l) 1048576)) ∧ (
      K (.row 1) [.row 3 (l : List Go.Rx.Ev) Bool.true, .row 0 (Go.Rx.posM (Go.Rx.ofM t) l : List Int) Bool.false]))) := by
  kernel_rfl

end Go.Rx
