/- Normal forms of the program's code (by a program of this session's; the kernel checks each). -/
import Derived.Test.YtimebkgadobpoaaC25a
namespace Go.Rx
open Go.Proofs
set_option maxRecDepth 100000
theorem nf31 (w : Int) (a : Ev) (K : V → Heap → Prop) : (exF cfgB Try.f31 [vi w, evV a] [] K) = (
    br (Decidable.decide (Go.Rx.Ev.Begin a < 0))
      (
      K (vb (Bool.false)) [])
      (
      br (Decidable.decide (Go.Rx.Ev.Worker a < 0))
        (
        K (vb (Bool.false)) [])
        (
        br (Decidable.decide (Go.Rx.Ev.Worker a ≥ w))
          (
          K (vb (Bool.false)) [])
          (
          br (Go.Rx.Ev.Done a)
            (
            br (Go.Rx.Ev.Sure a)
              (
              K (vb (Decidable.decide (Go.Rx.Ev.Begin a < Go.Rx.Ev.End a))) [])
              (
              K (vb (Bool.false)) []))
            (
            K (vb (Go.Rx.Ev.End a == 0)) []))))) := by
  kernel_rfl

theorem nf32 (w : Int) (a : Ev) (K : V → Heap → Prop) : (exF cfgB Try.f32 [vi w, evV a] [] K) = (
    br (Decidable.decide (Go.Rx.Ev.Begin a < 0))
      (
      K (vb (Bool.false)) [])
      (
      br (Decidable.decide (Go.Rx.Ev.Worker a < 0))
        (
        K (vb (Bool.false)) [])
        (
        br (Decidable.decide (Go.Rx.Ev.Worker a ≥ w))
          (
          K (vb (Bool.false)) [])
          (
          br (Go.Rx.Ev.Done a)
            (
            br (Go.Rx.Ev.Sure a)
              (
              K (vb (Decidable.decide (Go.Rx.Ev.End a > Go.Rx.Ev.Begin a))) [])
              (
              K (vb (Bool.false)) []))
            (
            K (vb (Go.Rx.Ev.End a == 0)) []))))) := by
  kernel_rfl

theorem nf34 (t : Int) (a : Ev) (T : TypeId) (K : V → Heap → Prop) : (exF cfg34 Try.f34 [evV a, .ptr 0 0] [.cells T [vi t]] K) = (
    br (Decidable.decide (Go.Rx.Ev.Begin a ≤ t))
      (
      br (Go.Rx.Ev.Done a)
        (
        K (vb (!Decidable.decide (Go.Rx.Ev.End a ≤ t))) [.cells T [vi (t)]])
        (
        K (vb (!Bool.false)) [.cells T [vi (t)]]))
      (
      K (vb (Bool.false)) [.cells T [vi (t)]])) := by
  kernel_rfl

theorem nf37 (t : Int) (a : Ev) (T : TypeId) (K : V → Heap → Prop) : (exF cfg34 Try.f37 [evV a, .ptr 0 0] [.cells T [vi t]] K) = (
    K (vb (Go.Rx.Ev.Worker a == t)) [.cells T [vi (t)]]) := by
  kernel_rfl

end Go.Rx
