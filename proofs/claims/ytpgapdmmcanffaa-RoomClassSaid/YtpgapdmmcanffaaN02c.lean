/- Normal forms of the program's code (by a program of this session's; the kernel checks each). -/
import Derived.Test.YtpgapdmmcanffaaC02c
namespace Go.Rx
open Go.Proofs
set_option maxRecDepth 100000
theorem nf14 (xs : List Int) (K : V → Heap → Prop) : (exF cfgM Try.f14 (mkA [23] 0 xs) [] K) = (
    K (.agg [vi (List.getD xs 0 0), vi (List.getD xs 1 0), vi (List.getD xs 2 0), vi (List.getD xs 3 0), vi (List.getD xs 4 0), vi (List.getD xs 5 0), vi (List.getD xs 6 0), vi (List.getD xs 7 0), vi (List.getD xs 8 0), vi (List.getD xs 9 0), vi (List.getD xs 10 0)]) []) := by
  kernel_rfl

theorem nf15 (xs : List Int) (K : V → Heap → Prop) : (exF cfgM Try.f15 (mkA [23] 0 xs) [] K) = (
    K (vi (List.getD xs 22 0)) []) := by
  kernel_rfl

theorem nf18 (xs : List Int) (K : V → Heap → Prop) : (exF cfgM Try.f18 (mkA [23] 0 xs) [] K) = (
    ((
      ((
        (Int.NonNeg (List.getD xs 2 0 - 0))) ∧ (
        (Int.NonNeg (1099511627776 - List.getD xs 2 0))))) ∧ (
      K (vi ((List.getD xs 2 0 + 3) / 4)) []))) := by
  kernel_rfl

theorem nf38 (xs : List Int) (K : V → Heap → Prop) : (exF cfgM Try.f38 (mkA [23] 0 xs) [] K) = (
    K (vi (List.getD xs 21 0)) []) := by
  kernel_rfl

theorem nf24 (xs : List Int) (K : V → Heap → Prop) : (exF cfgM Try.f24 (mkA [23, 0] 0 xs) [] K) = (
    br (Decidable.decide (List.getD xs 23 0 < 0))
      (
      K (vi (0)) [])
      (
      br (Decidable.decide (List.getD xs 23 0 ≥ List.getD xs 2 0))
        (
        K (vi (0)) [])
        (
        K (vi (Go.IntKind.wrap Go.IntKind.i64 (List.getD xs 12 0 + List.getD xs 23 0))) []))) := by
  kernel_rfl

theorem nf26 (xs : List Int) (K : V → Heap → Prop) : (exF cfgM Try.f26 (mkA [23, 0] 0 xs) [] K) = (
    br (Decidable.decide (List.getD xs 23 0 < 0))
      (
      K (vi (0)) [])
      (
      br (Decidable.decide (List.getD xs 23 0 ≥ List.getD xs 2 0))
        (
        K (vi (0)) [])
        (
        K (vi (Go.IntKind.wrap Go.IntKind.i64 (List.getD xs 13 0 + List.getD xs 23 0))) []))) := by
  kernel_rfl

theorem nf28 (xs : List Int) (K : V → Heap → Prop) : (exF cfgM Try.f28 (mkA [23, 0] 0 xs) [] K) = (
    br (Decidable.decide (List.getD xs 23 0 < 0))
      (
      K (vi (0)) [])
      (
      br (Decidable.decide (List.getD xs 23 0 ≥ List.getD xs 2 0))
        (
        K (vi (0)) [])
        (
        K (vi (Go.IntKind.wrap Go.IntKind.i64 (List.getD xs 14 0 + List.getD xs 23 0))) []))) := by
  kernel_rfl

theorem nf30 (xs : List Int) (K : V → Heap → Prop) : (exF cfgM Try.f30 (mkA [23, 0] 0 xs) [] K) = (
    br (Decidable.decide (List.getD xs 23 0 < 0))
      (
      K (vi (0)) [])
      (
      br (Decidable.decide (List.getD xs 23 0 ≥ List.getD xs 2 0))
        (
        K (vi (0)) [])
        (
        K (vi (Go.IntKind.wrap Go.IntKind.i64 (List.getD xs 15 0 + List.getD xs 23 0))) []))) := by
  kernel_rfl

theorem nf32 (xs : List Int) (K : V → Heap → Prop) : (exF cfgM Try.f32 (mkA [23, 0] 0 xs) [] K) = (
    br (Decidable.decide (List.getD xs 23 0 < 0))
      (
      K (vi (0)) [])
      (
      br (Decidable.decide (List.getD xs 23 0 ≥ List.getD xs 2 0))
        (
        K (vi (0)) [])
        (
        K (vi (Go.IntKind.wrap Go.IntKind.i64 (List.getD xs 16 0 + List.getD xs 23 0))) []))) := by
  kernel_rfl

theorem nf34 (xs : List Int) (K : V → Heap → Prop) : (exF cfgM Try.f34 (mkA [23, 0] 0 xs) [] K) = (
    br (Decidable.decide (List.getD xs 23 0 < 0))
      (
      K (vi (0)) [])
      (
      br (Decidable.decide (List.getD xs 23 0 ≥ List.getD xs 2 0))
        (
        K (vi (0)) [])
        (
        K (vi (Go.IntKind.wrap Go.IntKind.i64 (List.getD xs 21 0 + Go.IntKind.wrap Go.IntKind.i64 (List.getD xs 23 0 * 32)))) []))) := by
  kernel_rfl

theorem nf37 (xs : List Int) (K : V → Heap → Prop) : (exF cfgM Try.f37 (mkA [23, 0] 0 xs) [] K) = (
    br (Decidable.decide (List.getD xs 23 0 ≥ List.getD xs 21 0))
      (
      br (!Decidable.decide (List.getD xs 23 0 < List.getD xs 22 0))
        (
        K (.tup [vi (0), vi (0), vb (Bool.false)]) [])
        (
        K (.tup [vi (Go.IntKind.wrap Go.IntKind.i64 (Int.tdiv (Go.IntKind.wrap Go.IntKind.i64 (List.getD xs 23 0 - List.getD xs 21 0)) 32)), vi (Int.tmod (Go.IntKind.wrap Go.IntKind.i64 (List.getD xs 23 0 - List.getD xs 21 0)) 32), vb (Bool.true)]) []))
      (
      K (.tup [vi (0), vi (0), vb (Bool.false)]) [])) := by
  kernel_rfl

theorem nf39 (xs : List Int) (K : V → Heap → Prop) : (exF cfgM Try.f39 (mkA [23, 0] 0 xs) [] K) = (
    br (Decidable.decide (List.getD xs 23 0 ≥ List.getD xs 21 0))
      (
      br (!Decidable.decide (List.getD xs 23 0 < List.getD xs 22 0))
        (
        K (vi (0)) [])
        (
        K (vi (Go.IntKind.wrap Go.IntKind.i64 (Go.IntKind.wrap Go.IntKind.i64 (List.getD xs 20 0 + List.getD xs 23 0) - List.getD xs 21 0))) []))
      (
      K (vi (0)) [])) := by
  kernel_rfl

theorem nf45 (xs : List Int) (K : V → Heap → Prop) : (exF cfgM Try.f45 (mkA [23, 0] 0 xs) [] K) = (
    br (List.getD xs 2 0 == 0)
      (
      K (vi (0)) [])
      (
      br (Decidable.decide (List.getD xs 23 0 < 0))
        (
        K (vi (0)) [])
        (
        br (Decidable.decide (List.getD xs 23 0 ≥ 5))
          (
          K (vi (0)) [])
          (
          K (vi (Go.IntKind.wrap Go.IntKind.i64 (List.getD xs 19 0 + Go.IntKind.wrap Go.IntKind.i64 (List.getD xs 23 0 * Go.IntKind.wrap Go.IntKind.i64 (List.getD xs 9 0 + 1))))) [])))) := by
  kernel_rfl

theorem nf22 (xs : List Int) (K : V → Heap → Prop) : (exF cfgM Try.f22 (mkA [23, 0, 0] 0 xs) [] K) = (
    br (List.getD xs 2 0 == 0)
      (
      K (vi (0)) [])
      (
      br (Decidable.decide (List.getD xs 23 0 < 0))
        (
        K (vi (0)) [])
        (
        br (Decidable.decide (List.getD xs 23 0 ≥ 5))
          (
          K (vi (0)) [])
          (
          Req (Decidable.decide (0 ≤ List.getD xs 23 0))
            (
            br (Decidable.decide (List.getD xs 24 0 < 1))
              (
              K (vi (0)) [])
              (
              br (Decidable.decide (List.getD xs 24 0 > 32 / 2 ^ Min.min (Int.toNat (List.getD xs 23 0)) (Go.IntKind.bits Go.IntKind.i64)))
                (
                K (vi (0)) [])
                (
                K (vi (Go.IntKind.wrap Go.IntKind.i64 (Go.IntKind.wrap Go.IntKind.i64 (Go.IntKind.wrap Go.IntKind.i64 (List.getD xs 17 0 + Go.IntKind.wrap Go.IntKind.i64 (64 - Go.IntKind.wrap Go.IntKind.i64 (2 * (32 / 2 ^ Min.min (Int.toNat (List.getD xs 23 0)) (Go.IntKind.bits Go.IntKind.i64))))) + List.getD xs 24 0) - 1))) []))))))) := by
  kernel_rfl

theorem nf44 (xs : List Int) (K : V → Heap → Prop) : (exF cfgM Try.f44 (mkA [23, 0, 0] 0 xs) [] K) = (
    br (List.getD xs 2 0 == 0)
      (
      K (vi (0)) [])
      (
      br (Decidable.decide (List.getD xs 24 0 < 0))
        (
        K (vi (0)) [])
        (
        br (Decidable.decide (List.getD xs 24 0 ≥ 5))
          (
          K (vi (0)) [])
          (
          br (Decidable.decide (List.getD xs 23 0 < 0))
            (
            K (vi (0)) [])
            (
            br (Decidable.decide (List.getD xs 23 0 ≥ List.getD xs 1 0))
              (
              K (vi (0)) [])
              (
              K (vi (Go.IntKind.wrap Go.IntKind.i64 (List.getD xs 18 0 + Go.IntKind.wrap Go.IntKind.i64 (Go.IntKind.wrap Go.IntKind.i64 (Go.IntKind.wrap Go.IntKind.i64 (5 * List.getD xs 23 0) + List.getD xs 24 0) * Go.IntKind.wrap Go.IntKind.i64 (List.getD xs 8 0 + 1))))) [])))))) := by
  kernel_rfl

theorem nf69 (xs : List Int) (K : V → Heap → Prop) : (exF cfgM Try.f69 (mkA [0, 0, 0] 0 xs) [] K) = (
    Req (!Go.IntKind.wrap Go.IntKind.u64 (Go.IntKind.wrap Go.IntKind.i64 (Go.IntKind.wrap Go.IntKind.i64 (List.getD xs 2 0 - List.getD xs 1 0) + 1)) == 0)
      (
      K (vi (Go.IntKind.wrap Go.IntKind.i64 (List.getD xs 1 0 + Go.IntKind.wrap Go.IntKind.i64 (Int.tmod (Go.IntKind.wrap Go.IntKind.u64 (List.getD xs 0 0)) (Go.IntKind.wrap Go.IntKind.u64 (Go.IntKind.wrap Go.IntKind.i64 (Go.IntKind.wrap Go.IntKind.i64 (List.getD xs 2 0 - List.getD xs 1 0) + 1))))))) [])) := by
  kernel_rfl

end Go.Rx
