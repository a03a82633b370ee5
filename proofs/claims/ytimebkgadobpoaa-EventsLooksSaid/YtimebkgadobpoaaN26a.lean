/- Normal forms of the program's code (by a program of this session's; the kernel checks each). -/
import Derived.Test.YtimebkgadobpoaaC26
namespace Go.Rx
open Go.Proofs
set_option maxRecDepth 100000
theorem nf15 (a b : Ev) (K : V → Heap → Prop) : (exF cfgB Try.f15 [evV a, evV b] [] K) = (
    br (Go.Rx.Ev.Done a)
      (
      K (vb (Decidable.decide (Go.Rx.Ev.End a < Go.Rx.Ev.Begin b))) [])
      (
      K (vb (Bool.false)) [])) := by
  kernel_rfl

theorem nf16 (a b : Ev) (K : V → Heap → Prop) : (exF cfgB Try.f16 [evV a, evV b] [] K) = (
    br (Go.Rx.Ev.Done a)
      (
      K (vb (Decidable.decide (Go.Rx.Ev.End a < Go.Rx.Ev.Begin b))) [])
      (
      K (vb (Bool.false)) [])) := by
  kernel_rfl

theorem nf25 (a b : Ev) (K : V → Heap → Prop) : (exF cfgB Try.f25 [evV a, evV b] [] K) = (
    br (Go.Rx.Ev.Stamp a != Go.Rx.Ev.Stamp b)
      (
      K (vb (Decidable.decide (Go.Rx.Ev.Stamp a < Go.Rx.Ev.Stamp b))) [])
      (
      br (!Go.Rx.Ev.Wrote a == Go.Rx.Ev.Wrote b)
        (
        K (vb (Go.Rx.Ev.Wrote a)) [])
        (
        br (Go.Rx.Ev.Done a)
          (
          br (Go.Rx.Ev.Done b)
            (
            K (vb (Decidable.decide (Go.Rx.Ev.End a < Go.Rx.Ev.End b))) [])
            (
            br (Go.Rx.Ev.Done a)
              (
              K (vb (!Go.Rx.Ev.Done b)) [])
              (
              K (vb (Bool.false)) [])))
          (
          br (Go.Rx.Ev.Done a)
            (
            K (vb (!Go.Rx.Ev.Done b)) [])
            (
            K (vb (Bool.false)) []))))) := by
  kernel_rfl

theorem nf26 (a b : Ev) (K : V → Heap → Prop) : (exF cfgB Try.f26 [evV a, evV b] [] K) = (
    br (Go.Rx.Ev.Stamp a != Go.Rx.Ev.Stamp b)
      (
      K (vb (Decidable.decide (Go.Rx.Ev.Stamp a < Go.Rx.Ev.Stamp b))) [])
      (
      br (!Go.Rx.Ev.Wrote a == Go.Rx.Ev.Wrote b)
        (
        K (vb (Go.Rx.Ev.Wrote a)) [])
        (
        br (!Go.Rx.Ev.Done a == Go.Rx.Ev.Done b)
          (
          K (vb (Go.Rx.Ev.Done a)) [])
          (
          br (Go.Rx.Ev.Done a)
            (
            K (vb (Decidable.decide (Go.Rx.Ev.End a < Go.Rx.Ev.End b))) [])
            (
            K (vb (Bool.false)) []))))) := by
  kernel_rfl

end Go.Rx
