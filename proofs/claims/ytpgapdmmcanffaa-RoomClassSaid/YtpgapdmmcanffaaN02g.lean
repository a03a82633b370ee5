/- Normal forms of the program's code (by a program of this session's; the kernel checks each). -/
import Derived.Test.YtpgapdmmcanffaaC02g
namespace Go.Rx
open Go.Proofs
set_option maxRecDepth 100000
theorem nf19 (xs : List Int) (K : V → Heap → Prop) : (exF (cfgQ 19) Try.f19 (mkA [11] 0 xs) [] K) = (
    K (vi (Go.IntKind.wrap Go.IntKind.i64 (Int.tdiv (Go.IntKind.wrap Go.IntKind.i64 (List.getD xs 2 0 + 3)) 4))) []) := by
  kernel_rfl

theorem nf41 (xs : List Int) (K : V → Heap → Prop) : (exF (cfgQ 41) Try.f41 (mkA [11] 0 xs) [] K) = (
    K (vi (Go.IntKind.wrap Go.IntKind.i64 (Go.IntKind.wrap Go.IntKind.i64 (Go.IntKind.wrap Go.IntKind.i64 (Int.tdiv (Go.IntKind.wrap Go.IntKind.i64 (Go.IntKind.wrap Go.IntKind.i64 (Go.IntKind.wrap Go.IntKind.i64 (Go.IntKind.wrap Go.IntKind.i64 (Go.IntKind.wrap Go.IntKind.i64 (Go.IntKind.wrap Go.IntKind.i64 (Go.IntKind.wrap Go.IntKind.i64 (Go.IntKind.wrap Go.IntKind.i64 (3 + List.getD xs 3 0) + Go.IntKind.wrap Go.IntKind.i64 (Int.tdiv (Go.IntKind.wrap Go.IntKind.i64 (List.getD xs 2 0 + 3)) 4)) + Go.IntKind.wrap Go.IntKind.i64 (5 * List.getD xs 2 0)) + 62) + Go.IntKind.wrap Go.IntKind.i64 (Go.IntKind.wrap Go.IntKind.i64 (5 * List.getD xs 1 0) * Go.IntKind.wrap Go.IntKind.i64 (List.getD xs 8 0 + 1))) + Go.IntKind.wrap Go.IntKind.i64 (5 * Go.IntKind.wrap Go.IntKind.i64 (List.getD xs 9 0 + 1))) + Go.IntKind.wrap Go.IntKind.i64 (32 * List.getD xs 2 0)) + 127)) 128) * 128) + Go.IntKind.wrap Go.IntKind.i64 (32 * List.getD xs 2 0)))) []) := by
  kernel_rfl

theorem nf42 (xs : List Int) (K : V → Heap → Prop) : (exF (cfgQ 42) Try.f42 (mkA [11] 0 xs) [] K) = (
    K (vi (Go.IntKind.wrap Go.IntKind.i64 (Go.IntKind.wrap Go.IntKind.i64 (Int.tdiv (Go.IntKind.wrap Go.IntKind.i64 (Go.IntKind.wrap Go.IntKind.i64 (Go.IntKind.wrap Go.IntKind.i64 (Go.IntKind.wrap Go.IntKind.i64 (Go.IntKind.wrap Go.IntKind.i64 (Go.IntKind.wrap Go.IntKind.i64 (Go.IntKind.wrap Go.IntKind.i64 (Go.IntKind.wrap Go.IntKind.i64 (3 + List.getD xs 3 0) + Go.IntKind.wrap Go.IntKind.i64 (Int.tdiv (Go.IntKind.wrap Go.IntKind.i64 (List.getD xs 2 0 + 3)) 4)) + Go.IntKind.wrap Go.IntKind.i64 (5 * List.getD xs 2 0)) + 62) + Go.IntKind.wrap Go.IntKind.i64 (Go.IntKind.wrap Go.IntKind.i64 (5 * List.getD xs 1 0) * Go.IntKind.wrap Go.IntKind.i64 (List.getD xs 8 0 + 1))) + Go.IntKind.wrap Go.IntKind.i64 (5 * Go.IntKind.wrap Go.IntKind.i64 (List.getD xs 9 0 + 1))) + Go.IntKind.wrap Go.IntKind.i64 (32 * List.getD xs 2 0)) + 127)) 128) * 128))) []) := by
  kernel_rfl

theorem nf21 (xs : List Int) (K : V → Heap → Prop) : (exF (cfgQ 21) Try.f21 (mkA [11, 0] 0 xs) [] K) = (
    br (Decidable.decide (List.getD xs 11 0 ≥ 0))
      (
      br (!Decidable.decide (List.getD xs 11 0 < Go.IntKind.wrap Go.IntKind.i64 (Int.tdiv (Go.IntKind.wrap Go.IntKind.i64 (List.getD xs 2 0 + 3)) 4)))
        (
        K (vi (0)) [])
        (
        K (vi (Go.IntKind.wrap Go.IntKind.i64 (Go.IntKind.wrap Go.IntKind.i64 (3 + List.getD xs 3 0) + List.getD xs 11 0))) []))
      (
      K (vi (0)) [])) := by
  kernel_rfl

theorem nf25 (xs : List Int) (K : V → Heap → Prop) : (exF (cfgQ 25) Try.f25 (mkA [11, 0] 0 xs) [] K) = (
    br (Decidable.decide (List.getD xs 11 0 ≥ 0))
      (
      br (!Decidable.decide (List.getD xs 11 0 < List.getD xs 2 0))
        (
        K (vi (0)) [])
        (
        K (vi (Go.IntKind.wrap Go.IntKind.i64 (Go.IntKind.wrap Go.IntKind.i64 (Go.IntKind.wrap Go.IntKind.i64 (Go.IntKind.wrap Go.IntKind.i64 (3 + List.getD xs 3 0) + Go.IntKind.wrap Go.IntKind.i64 (Int.tdiv (Go.IntKind.wrap Go.IntKind.i64 (List.getD xs 2 0 + 3)) 4)) + Go.IntKind.wrap Go.IntKind.i64 (0 * List.getD xs 2 0)) + List.getD xs 11 0))) []))
      (
      K (vi (0)) [])) := by
  kernel_rfl

theorem nf27 (xs : List Int) (K : V → Heap → Prop) : (exF (cfgQ 27) Try.f27 (mkA [11, 0] 0 xs) [] K) = (
    br (Decidable.decide (List.getD xs 11 0 ≥ 0))
      (
      br (!Decidable.decide (List.getD xs 11 0 < List.getD xs 2 0))
        (
        K (vi (0)) [])
        (
        K (vi (Go.IntKind.wrap Go.IntKind.i64 (Go.IntKind.wrap Go.IntKind.i64 (Go.IntKind.wrap Go.IntKind.i64 (Go.IntKind.wrap Go.IntKind.i64 (3 + List.getD xs 3 0) + Go.IntKind.wrap Go.IntKind.i64 (Int.tdiv (Go.IntKind.wrap Go.IntKind.i64 (List.getD xs 2 0 + 3)) 4)) + Go.IntKind.wrap Go.IntKind.i64 (1 * List.getD xs 2 0)) + List.getD xs 11 0))) []))
      (
      K (vi (0)) [])) := by
  kernel_rfl

theorem nf29 (xs : List Int) (K : V → Heap → Prop) : (exF (cfgQ 29) Try.f29 (mkA [11, 0] 0 xs) [] K) = (
    br (Decidable.decide (List.getD xs 11 0 ≥ 0))
      (
      br (!Decidable.decide (List.getD xs 11 0 < List.getD xs 2 0))
        (
        K (vi (0)) [])
        (
        K (vi (Go.IntKind.wrap Go.IntKind.i64 (Go.IntKind.wrap Go.IntKind.i64 (Go.IntKind.wrap Go.IntKind.i64 (Go.IntKind.wrap Go.IntKind.i64 (3 + List.getD xs 3 0) + Go.IntKind.wrap Go.IntKind.i64 (Int.tdiv (Go.IntKind.wrap Go.IntKind.i64 (List.getD xs 2 0 + 3)) 4)) + Go.IntKind.wrap Go.IntKind.i64 (2 * List.getD xs 2 0)) + List.getD xs 11 0))) []))
      (
      K (vi (0)) [])) := by
  kernel_rfl

theorem nf31 (xs : List Int) (K : V → Heap → Prop) : (exF (cfgQ 31) Try.f31 (mkA [11, 0] 0 xs) [] K) = (
    br (Decidable.decide (List.getD xs 11 0 ≥ 0))
      (
      br (!Decidable.decide (List.getD xs 11 0 < List.getD xs 2 0))
        (
        K (vi (0)) [])
        (
        K (vi (Go.IntKind.wrap Go.IntKind.i64 (Go.IntKind.wrap Go.IntKind.i64 (Go.IntKind.wrap Go.IntKind.i64 (Go.IntKind.wrap Go.IntKind.i64 (3 + List.getD xs 3 0) + Go.IntKind.wrap Go.IntKind.i64 (Int.tdiv (Go.IntKind.wrap Go.IntKind.i64 (List.getD xs 2 0 + 3)) 4)) + Go.IntKind.wrap Go.IntKind.i64 (3 * List.getD xs 2 0)) + List.getD xs 11 0))) []))
      (
      K (vi (0)) [])) := by
  kernel_rfl

theorem nf33 (xs : List Int) (K : V → Heap → Prop) : (exF (cfgQ 33) Try.f33 (mkA [11, 0] 0 xs) [] K) = (
    br (Decidable.decide (List.getD xs 11 0 ≥ 0))
      (
      br (!Decidable.decide (List.getD xs 11 0 < List.getD xs 2 0))
        (
        K (vi (0)) [])
        (
        K (vi (Go.IntKind.wrap Go.IntKind.i64 (Go.IntKind.wrap Go.IntKind.i64 (Go.IntKind.wrap Go.IntKind.i64 (Go.IntKind.wrap Go.IntKind.i64 (3 + List.getD xs 3 0) + Go.IntKind.wrap Go.IntKind.i64 (Int.tdiv (Go.IntKind.wrap Go.IntKind.i64 (List.getD xs 2 0 + 3)) 4)) + Go.IntKind.wrap Go.IntKind.i64 (4 * List.getD xs 2 0)) + List.getD xs 11 0))) []))
      (
      K (vi (0)) [])) := by
  kernel_rfl

theorem nf35 (xs : List Int) (K : V → Heap → Prop) : (exF (cfgQ 35) Try.f35 (mkA [11, 0] 0 xs) [] K) = (
    br (Decidable.decide (List.getD xs 11 0 ≥ 0))
      (
      br (!Decidable.decide (List.getD xs 11 0 < List.getD xs 2 0))
        (
        K (vi (0)) [])
        (
        K (vi (Go.IntKind.wrap Go.IntKind.i64 (Go.IntKind.wrap Go.IntKind.i64 (Go.IntKind.wrap Go.IntKind.i64 (Int.tdiv (Go.IntKind.wrap Go.IntKind.i64 (Go.IntKind.wrap Go.IntKind.i64 (Go.IntKind.wrap Go.IntKind.i64 (Go.IntKind.wrap Go.IntKind.i64 (Go.IntKind.wrap Go.IntKind.i64 (Go.IntKind.wrap Go.IntKind.i64 (Go.IntKind.wrap Go.IntKind.i64 (Go.IntKind.wrap Go.IntKind.i64 (3 + List.getD xs 3 0) + Go.IntKind.wrap Go.IntKind.i64 (Int.tdiv (Go.IntKind.wrap Go.IntKind.i64 (List.getD xs 2 0 + 3)) 4)) + Go.IntKind.wrap Go.IntKind.i64 (5 * List.getD xs 2 0)) + 62) + Go.IntKind.wrap Go.IntKind.i64 (Go.IntKind.wrap Go.IntKind.i64 (5 * List.getD xs 1 0) * Go.IntKind.wrap Go.IntKind.i64 (List.getD xs 8 0 + 1))) + Go.IntKind.wrap Go.IntKind.i64 (5 * Go.IntKind.wrap Go.IntKind.i64 (List.getD xs 9 0 + 1))) + Go.IntKind.wrap Go.IntKind.i64 (32 * List.getD xs 2 0)) + 127)) 128) * 128) + Go.IntKind.wrap Go.IntKind.i64 (32 * List.getD xs 11 0)))) []))
      (
      K (vi (0)) [])) := by
  kernel_rfl

theorem nf40 (xs : List Int) (K : V → Heap → Prop) : (exF (cfgQ 40) Try.f40 (mkA [11, 0] 0 xs) [] K) = (
    br (Decidable.decide (List.getD xs 11 0 < Go.IntKind.wrap Go.IntKind.i64 (Go.IntKind.wrap Go.IntKind.i64 (Int.tdiv (Go.IntKind.wrap Go.IntKind.i64 (Go.IntKind.wrap Go.IntKind.i64 (Go.IntKind.wrap Go.IntKind.i64 (Go.IntKind.wrap Go.IntKind.i64 (Go.IntKind.wrap Go.IntKind.i64 (Go.IntKind.wrap Go.IntKind.i64 (Go.IntKind.wrap Go.IntKind.i64 (Go.IntKind.wrap Go.IntKind.i64 (3 + List.getD xs 3 0) + Go.IntKind.wrap Go.IntKind.i64 (Int.tdiv (Go.IntKind.wrap Go.IntKind.i64 (List.getD xs 2 0 + 3)) 4)) + Go.IntKind.wrap Go.IntKind.i64 (5 * List.getD xs 2 0)) + 62) + Go.IntKind.wrap Go.IntKind.i64 (Go.IntKind.wrap Go.IntKind.i64 (5 * List.getD xs 1 0) * Go.IntKind.wrap Go.IntKind.i64 (List.getD xs 8 0 + 1))) + Go.IntKind.wrap Go.IntKind.i64 (5 * Go.IntKind.wrap Go.IntKind.i64 (List.getD xs 9 0 + 1))) + Go.IntKind.wrap Go.IntKind.i64 (32 * List.getD xs 2 0)) + 127)) 128) * 128)))
      (
      K (.tup [vi (0), vi (0), vb (Bool.false)]) [])
      (
      br (Decidable.decide (List.getD xs 11 0 ≥ Go.IntKind.wrap Go.IntKind.i64 (Go.IntKind.wrap Go.IntKind.i64 (Go.IntKind.wrap Go.IntKind.i64 (Int.tdiv (Go.IntKind.wrap Go.IntKind.i64 (Go.IntKind.wrap Go.IntKind.i64 (Go.IntKind.wrap Go.IntKind.i64 (Go.IntKind.wrap Go.IntKind.i64 (Go.IntKind.wrap Go.IntKind.i64 (Go.IntKind.wrap Go.IntKind.i64 (Go.IntKind.wrap Go.IntKind.i64 (Go.IntKind.wrap Go.IntKind.i64 (3 + List.getD xs 3 0) + Go.IntKind.wrap Go.IntKind.i64 (Int.tdiv (Go.IntKind.wrap Go.IntKind.i64 (List.getD xs 2 0 + 3)) 4)) + Go.IntKind.wrap Go.IntKind.i64 (5 * List.getD xs 2 0)) + 62) + Go.IntKind.wrap Go.IntKind.i64 (Go.IntKind.wrap Go.IntKind.i64 (5 * List.getD xs 1 0) * Go.IntKind.wrap Go.IntKind.i64 (List.getD xs 8 0 + 1))) + Go.IntKind.wrap Go.IntKind.i64 (5 * Go.IntKind.wrap Go.IntKind.i64 (List.getD xs 9 0 + 1))) + Go.IntKind.wrap Go.IntKind.i64 (32 * List.getD xs 2 0)) + 127)) 128) * 128) + Go.IntKind.wrap Go.IntKind.i64 (32 * List.getD xs 2 0))))
        (
        K (.tup [vi (0), vi (0), vb (Bool.false)]) [])
        (
        K (.tup [vi (Go.IntKind.wrap Go.IntKind.i64 (Int.tdiv (Go.IntKind.wrap Go.IntKind.i64 (List.getD xs 11 0 - Go.IntKind.wrap Go.IntKind.i64 (Go.IntKind.wrap Go.IntKind.i64 (Int.tdiv (Go.IntKind.wrap Go.IntKind.i64 (Go.IntKind.wrap Go.IntKind.i64 (Go.IntKind.wrap Go.IntKind.i64 (Go.IntKind.wrap Go.IntKind.i64 (Go.IntKind.wrap Go.IntKind.i64 (Go.IntKind.wrap Go.IntKind.i64 (Go.IntKind.wrap Go.IntKind.i64 (Go.IntKind.wrap Go.IntKind.i64 (3 + List.getD xs 3 0) + Go.IntKind.wrap Go.IntKind.i64 (Int.tdiv (Go.IntKind.wrap Go.IntKind.i64 (List.getD xs 2 0 + 3)) 4)) + Go.IntKind.wrap Go.IntKind.i64 (5 * List.getD xs 2 0)) + 62) + Go.IntKind.wrap Go.IntKind.i64 (Go.IntKind.wrap Go.IntKind.i64 (5 * List.getD xs 1 0) * Go.IntKind.wrap Go.IntKind.i64 (List.getD xs 8 0 + 1))) + Go.IntKind.wrap Go.IntKind.i64 (5 * Go.IntKind.wrap Go.IntKind.i64 (List.getD xs 9 0 + 1))) + Go.IntKind.wrap Go.IntKind.i64 (32 * List.getD xs 2 0)) + 127)) 128) * 128))) 32)), vi (Int.tmod (Go.IntKind.wrap Go.IntKind.i64 (List.getD xs 11 0 - Go.IntKind.wrap Go.IntKind.i64 (Go.IntKind.wrap Go.IntKind.i64 (Int.tdiv (Go.IntKind.wrap Go.IntKind.i64 (Go.IntKind.wrap Go.IntKind.i64 (Go.IntKind.wrap Go.IntKind.i64 (Go.IntKind.wrap Go.IntKind.i64 (Go.IntKind.wrap Go.IntKind.i64 (Go.IntKind.wrap Go.IntKind.i64 (Go.IntKind.wrap Go.IntKind.i64 (Go.IntKind.wrap Go.IntKind.i64 (3 + List.getD xs 3 0) + Go.IntKind.wrap Go.IntKind.i64 (Int.tdiv (Go.IntKind.wrap Go.IntKind.i64 (List.getD xs 2 0 + 3)) 4)) + Go.IntKind.wrap Go.IntKind.i64 (5 * List.getD xs 2 0)) + 62) + Go.IntKind.wrap Go.IntKind.i64 (Go.IntKind.wrap Go.IntKind.i64 (5 * List.getD xs 1 0) * Go.IntKind.wrap Go.IntKind.i64 (List.getD xs 8 0 + 1))) + Go.IntKind.wrap Go.IntKind.i64 (5 * Go.IntKind.wrap Go.IntKind.i64 (List.getD xs 9 0 + 1))) + Go.IntKind.wrap Go.IntKind.i64 (32 * List.getD xs 2 0)) + 127)) 128) * 128))) 32), vb (Bool.true)]) []))) := by
  kernel_rfl

theorem nf46 (xs : List Int) (K : V → Heap → Prop) : (exF (cfgQ 46) Try.f46 (mkA [11, 0] 0 xs) [] K) = (
    br (Decidable.decide (List.getD xs 11 0 < 0))
      (
      K (vi (0)) [])
      (
      br (Decidable.decide (List.getD xs 11 0 ≥ Go.IntKind.wrap Go.IntKind.i64 (Go.IntKind.wrap Go.IntKind.i64 (Go.IntKind.wrap Go.IntKind.i64 (Int.tdiv (Go.IntKind.wrap Go.IntKind.i64 (Go.IntKind.wrap Go.IntKind.i64 (Go.IntKind.wrap Go.IntKind.i64 (Go.IntKind.wrap Go.IntKind.i64 (Go.IntKind.wrap Go.IntKind.i64 (Go.IntKind.wrap Go.IntKind.i64 (Go.IntKind.wrap Go.IntKind.i64 (Go.IntKind.wrap Go.IntKind.i64 (3 + List.getD xs 3 0) + Go.IntKind.wrap Go.IntKind.i64 (Int.tdiv (Go.IntKind.wrap Go.IntKind.i64 (List.getD xs 2 0 + 3)) 4)) + Go.IntKind.wrap Go.IntKind.i64 (5 * List.getD xs 2 0)) + 62) + Go.IntKind.wrap Go.IntKind.i64 (Go.IntKind.wrap Go.IntKind.i64 (5 * List.getD xs 1 0) * Go.IntKind.wrap Go.IntKind.i64 (List.getD xs 8 0 + 1))) + Go.IntKind.wrap Go.IntKind.i64 (5 * Go.IntKind.wrap Go.IntKind.i64 (List.getD xs 9 0 + 1))) + Go.IntKind.wrap Go.IntKind.i64 (32 * List.getD xs 2 0)) + 127)) 128) * 128) + Go.IntKind.wrap Go.IntKind.i64 (32 * List.getD xs 2 0))))
        (
        K (vi (0)) [])
        (
        Req (!List.getD xs 3 0 == 0)
          (
          K (vi (Go.IntKind.wrap Go.IntKind.i64 (3 + Int.tmod (List.getD xs 11 0) (List.getD xs 3 0)))) [])))) := by
  kernel_rfl

theorem nf48 (xs : List Int) (K : V → Heap → Prop) : (exF (cfgQ 48) Try.f48 (mkA [11, 0] 0 xs) [] K) = (
    br (Decidable.decide (List.getD xs 11 0 ≥ 0))
      (
      br (!Decidable.decide (List.getD xs 11 0 ≤ 4))
        (
        K (vi (0)) [])
        (
        K (vi (Go.IntKind.wrap Go.IntKind.i64 (Go.IntKind.wrap Go.IntKind.i64 (Go.IntKind.wrap Go.IntKind.i64 (Go.IntKind.wrap Go.IntKind.i64 (Go.IntKind.wrap Go.IntKind.i64 (Go.IntKind.wrap Go.IntKind.i64 (3 + List.getD xs 3 0) + Go.IntKind.wrap Go.IntKind.i64 (Int.tdiv (Go.IntKind.wrap Go.IntKind.i64 (List.getD xs 2 0 + 3)) 4)) + Go.IntKind.wrap Go.IntKind.i64 (5 * List.getD xs 2 0)) + 62) + Go.IntKind.wrap Go.IntKind.i64 (Go.IntKind.wrap Go.IntKind.i64 (5 * List.getD xs 1 0) * Go.IntKind.wrap Go.IntKind.i64 (List.getD xs 8 0 + 1))) + Go.IntKind.wrap Go.IntKind.i64 (List.getD xs 11 0 * Go.IntKind.wrap Go.IntKind.i64 (List.getD xs 9 0 + 1))))) []))
      (
      K (vi (0)) [])) := by
  kernel_rfl

theorem nf49 (xs : List Int) (K : V → Heap → Prop) : (exF (cfgQ 49) Try.f49 (mkA [11, 0] 0 xs) [] K) = (
    br (Decidable.decide (List.getD xs 11 0 ≥ Go.IntKind.wrap Go.IntKind.i64 (Go.IntKind.wrap Go.IntKind.i64 (Int.tdiv (Go.IntKind.wrap Go.IntKind.i64 (Go.IntKind.wrap Go.IntKind.i64 (Go.IntKind.wrap Go.IntKind.i64 (Go.IntKind.wrap Go.IntKind.i64 (Go.IntKind.wrap Go.IntKind.i64 (Go.IntKind.wrap Go.IntKind.i64 (Go.IntKind.wrap Go.IntKind.i64 (Go.IntKind.wrap Go.IntKind.i64 (3 + List.getD xs 3 0) + Go.IntKind.wrap Go.IntKind.i64 (Int.tdiv (Go.IntKind.wrap Go.IntKind.i64 (List.getD xs 2 0 + 3)) 4)) + Go.IntKind.wrap Go.IntKind.i64 (5 * List.getD xs 2 0)) + 62) + Go.IntKind.wrap Go.IntKind.i64 (Go.IntKind.wrap Go.IntKind.i64 (5 * List.getD xs 1 0) * Go.IntKind.wrap Go.IntKind.i64 (List.getD xs 8 0 + 1))) + Go.IntKind.wrap Go.IntKind.i64 (5 * Go.IntKind.wrap Go.IntKind.i64 (List.getD xs 9 0 + 1))) + Go.IntKind.wrap Go.IntKind.i64 (32 * List.getD xs 2 0)) + 127)) 128) * 128)))
      (
      br (!Decidable.decide (List.getD xs 11 0 < Go.IntKind.wrap Go.IntKind.i64 (Go.IntKind.wrap Go.IntKind.i64 (Go.IntKind.wrap Go.IntKind.i64 (Int.tdiv (Go.IntKind.wrap Go.IntKind.i64 (Go.IntKind.wrap Go.IntKind.i64 (Go.IntKind.wrap Go.IntKind.i64 (Go.IntKind.wrap Go.IntKind.i64 (Go.IntKind.wrap Go.IntKind.i64 (Go.IntKind.wrap Go.IntKind.i64 (Go.IntKind.wrap Go.IntKind.i64 (Go.IntKind.wrap Go.IntKind.i64 (3 + List.getD xs 3 0) + Go.IntKind.wrap Go.IntKind.i64 (Int.tdiv (Go.IntKind.wrap Go.IntKind.i64 (List.getD xs 2 0 + 3)) 4)) + Go.IntKind.wrap Go.IntKind.i64 (5 * List.getD xs 2 0)) + 62) + Go.IntKind.wrap Go.IntKind.i64 (Go.IntKind.wrap Go.IntKind.i64 (5 * List.getD xs 1 0) * Go.IntKind.wrap Go.IntKind.i64 (List.getD xs 8 0 + 1))) + Go.IntKind.wrap Go.IntKind.i64 (5 * Go.IntKind.wrap Go.IntKind.i64 (List.getD xs 9 0 + 1))) + Go.IntKind.wrap Go.IntKind.i64 (32 * List.getD xs 2 0)) + 127)) 128) * 128) + Go.IntKind.wrap Go.IntKind.i64 (32 * List.getD xs 2 0))))
        (
        K (vi (0)) [])
        (
        K (vi (Go.IntKind.wrap Go.IntKind.i64 (Go.IntKind.wrap Go.IntKind.i64 (Go.IntKind.wrap Go.IntKind.i64 (Go.IntKind.wrap Go.IntKind.i64 (Go.IntKind.wrap Go.IntKind.i64 (Go.IntKind.wrap Go.IntKind.i64 (Go.IntKind.wrap Go.IntKind.i64 (Go.IntKind.wrap Go.IntKind.i64 (3 + List.getD xs 3 0) + Go.IntKind.wrap Go.IntKind.i64 (Int.tdiv (Go.IntKind.wrap Go.IntKind.i64 (List.getD xs 2 0 + 3)) 4)) + Go.IntKind.wrap Go.IntKind.i64 (5 * List.getD xs 2 0)) + 62) + Go.IntKind.wrap Go.IntKind.i64 (Go.IntKind.wrap Go.IntKind.i64 (5 * List.getD xs 1 0) * Go.IntKind.wrap Go.IntKind.i64 (List.getD xs 8 0 + 1))) + Go.IntKind.wrap Go.IntKind.i64 (5 * Go.IntKind.wrap Go.IntKind.i64 (List.getD xs 9 0 + 1))) + List.getD xs 11 0) - Go.IntKind.wrap Go.IntKind.i64 (Go.IntKind.wrap Go.IntKind.i64 (Int.tdiv (Go.IntKind.wrap Go.IntKind.i64 (Go.IntKind.wrap Go.IntKind.i64 (Go.IntKind.wrap Go.IntKind.i64 (Go.IntKind.wrap Go.IntKind.i64 (Go.IntKind.wrap Go.IntKind.i64 (Go.IntKind.wrap Go.IntKind.i64 (Go.IntKind.wrap Go.IntKind.i64 (Go.IntKind.wrap Go.IntKind.i64 (3 + List.getD xs 3 0) + Go.IntKind.wrap Go.IntKind.i64 (Int.tdiv (Go.IntKind.wrap Go.IntKind.i64 (List.getD xs 2 0 + 3)) 4)) + Go.IntKind.wrap Go.IntKind.i64 (5 * List.getD xs 2 0)) + 62) + Go.IntKind.wrap Go.IntKind.i64 (Go.IntKind.wrap Go.IntKind.i64 (5 * List.getD xs 1 0) * Go.IntKind.wrap Go.IntKind.i64 (List.getD xs 8 0 + 1))) + Go.IntKind.wrap Go.IntKind.i64 (5 * Go.IntKind.wrap Go.IntKind.i64 (List.getD xs 9 0 + 1))) + Go.IntKind.wrap Go.IntKind.i64 (32 * List.getD xs 2 0)) + 127)) 128) * 128)))) []))
      (
      K (vi (0)) [])) := by
  kernel_rfl

theorem nf47 (xs : List Int) (K : V → Heap → Prop) : (exF (cfgQ 47) Try.f47 (mkA [11, 0, 0] 0 xs) [] K) = (
    br (Decidable.decide (List.getD xs 11 0 ≥ 0))
      (
      br (Decidable.decide (List.getD xs 11 0 < List.getD xs 1 0))
        (
        br (Decidable.decide (List.getD xs 12 0 ≥ 0))
          (
          br (!Decidable.decide (List.getD xs 12 0 ≤ 4))
            (
            K (vi (0)) [])
            (
            K (vi (Go.IntKind.wrap Go.IntKind.i64 (Go.IntKind.wrap Go.IntKind.i64 (Go.IntKind.wrap Go.IntKind.i64 (Go.IntKind.wrap Go.IntKind.i64 (Go.IntKind.wrap Go.IntKind.i64 (3 + List.getD xs 3 0) + Go.IntKind.wrap Go.IntKind.i64 (Int.tdiv (Go.IntKind.wrap Go.IntKind.i64 (List.getD xs 2 0 + 3)) 4)) + Go.IntKind.wrap Go.IntKind.i64 (5 * List.getD xs 2 0)) + 62) + Go.IntKind.wrap Go.IntKind.i64 (Go.IntKind.wrap Go.IntKind.i64 (Go.IntKind.wrap Go.IntKind.i64 (5 * List.getD xs 11 0) + List.getD xs 12 0) * Go.IntKind.wrap Go.IntKind.i64 (List.getD xs 8 0 + 1))))) []))
          (
          K (vi (0)) []))
        (
        K (vi (0)) []))
      (
      K (vi (0)) [])) := by
  kernel_rfl

theorem nf23 (xs : List Int) (K : V → Heap → Prop) : (exF cfg23 Try.f23 (mkA [11, 0, 0] 0 xs) [] K) = (
    br (Decidable.decide (List.getD xs 11 0 < 0))
      (
      K (vi (0)) [])
      (
      br (Decidable.decide (List.getD xs 11 0 > 4))
        (
        K (vi (0)) [])
        (
        br (Decidable.decide (0 < List.getD xs 11 0))
          (
          br (Decidable.decide (Go.IntKind.wrap Go.IntKind.i64 (0 + 1) < List.getD xs 11 0))
            (
            br (Decidable.decide (Go.IntKind.wrap Go.IntKind.i64 (Go.IntKind.wrap Go.IntKind.i64 (0 + 1) + 1) < List.getD xs 11 0))
              (
              br (Decidable.decide (Go.IntKind.wrap Go.IntKind.i64 (Go.IntKind.wrap Go.IntKind.i64 (Go.IntKind.wrap Go.IntKind.i64 (0 + 1) + 1) + 1) < List.getD xs 11 0))
                (
                br (Decidable.decide (Go.IntKind.wrap Go.IntKind.i64 (Go.IntKind.wrap Go.IntKind.i64 (Go.IntKind.wrap Go.IntKind.i64 (Go.IntKind.wrap Go.IntKind.i64 (0 + 1) + 1) + 1) + 1) < List.getD xs 11 0))
                  (
                  br (Decidable.decide (Go.IntKind.wrap Go.IntKind.i64 (Go.IntKind.wrap Go.IntKind.i64 (Go.IntKind.wrap Go.IntKind.i64 (Go.IntKind.wrap Go.IntKind.i64 (Go.IntKind.wrap Go.IntKind.i64 (0 + 1) + 1) + 1) + 1) + 1) < List.getD xs 11 0))
                    (
                    False)
                    (
                    br (Decidable.decide (List.getD xs 12 0 ≥ 1))
                      (
                      br (Decidable.decide (0 < List.getD xs 11 0))
                        (
                        br (Decidable.decide (Go.IntKind.wrap Go.IntKind.i64 (0 + 1) < List.getD xs 11 0))
                          (
                          br (Decidable.decide (Go.IntKind.wrap Go.IntKind.i64 (Go.IntKind.wrap Go.IntKind.i64 (0 + 1) + 1) < List.getD xs 11 0))
                            (
                            br (Decidable.decide (Go.IntKind.wrap Go.IntKind.i64 (Go.IntKind.wrap Go.IntKind.i64 (Go.IntKind.wrap Go.IntKind.i64 (0 + 1) + 1) + 1) < List.getD xs 11 0))
                              (
                              br (Decidable.decide (Go.IntKind.wrap Go.IntKind.i64 (Go.IntKind.wrap Go.IntKind.i64 (Go.IntKind.wrap Go.IntKind.i64 (Go.IntKind.wrap Go.IntKind.i64 (0 + 1) + 1) + 1) + 1) < List.getD xs 11 0))
                                (
                                br (Decidable.decide (Go.IntKind.wrap Go.IntKind.i64 (Go.IntKind.wrap Go.IntKind.i64 (Go.IntKind.wrap Go.IntKind.i64 (Go.IntKind.wrap Go.IntKind.i64 (Go.IntKind.wrap Go.IntKind.i64 (0 + 1) + 1) + 1) + 1) + 1) < List.getD xs 11 0))
                                  (
                                  br (!Decidable.decide (List.getD xs 12 0 ≤ Go.IntKind.wrap Go.IntKind.i64 (Int.tdiv (Go.IntKind.wrap Go.IntKind.i64 (Int.tdiv (Go.IntKind.wrap Go.IntKind.i64 (Int.tdiv (Go.IntKind.wrap Go.IntKind.i64 (Int.tdiv (Go.IntKind.wrap Go.IntKind.i64 (Int.tdiv 32 2)) 2)) 2)) 2)) 2)))
                                    (
                                    K (vi (0)) [])
                                    (
                                    K (vi (Go.IntKind.wrap Go.IntKind.i64 (Go.IntKind.wrap Go.IntKind.i64 (Go.IntKind.wrap Go.IntKind.i64 (Go.IntKind.wrap Go.IntKind.i64 (Go.IntKind.wrap Go.IntKind.i64 (Go.IntKind.wrap Go.IntKind.i64 (3 + List.getD xs 3 0) + Go.IntKind.wrap Go.IntKind.i64 (Int.tdiv (Go.IntKind.wrap Go.IntKind.i64 (List.getD xs 2 0 + 3)) 4)) + Go.IntKind.wrap Go.IntKind.i64 (5 * List.getD xs 2 0)) + Go.IntKind.wrap Go.IntKind.i64 (Go.IntKind.wrap Go.IntKind.i64 (Go.IntKind.wrap Go.IntKind.i64 (Go.IntKind.wrap Go.IntKind.i64 (Go.IntKind.wrap Go.IntKind.i64 (0 + 32) + Go.IntKind.wrap Go.IntKind.i64 (Int.tdiv 32 2)) + Go.IntKind.wrap Go.IntKind.i64 (Int.tdiv (Go.IntKind.wrap Go.IntKind.i64 (Int.tdiv 32 2)) 2)) + Go.IntKind.wrap Go.IntKind.i64 (Int.tdiv (Go.IntKind.wrap Go.IntKind.i64 (Int.tdiv (Go.IntKind.wrap Go.IntKind.i64 (Int.tdiv 32 2)) 2)) 2)) + Go.IntKind.wrap Go.IntKind.i64 (Int.tdiv (Go.IntKind.wrap Go.IntKind.i64 (Int.tdiv (Go.IntKind.wrap Go.IntKind.i64 (Int.tdiv (Go.IntKind.wrap Go.IntKind.i64 (Int.tdiv 32 2)) 2)) 2)) 2))) + List.getD xs 12 0) - 1))) []))
                                  (
                                  br (!Decidable.decide (List.getD xs 12 0 ≤ Go.IntKind.wrap Go.IntKind.i64 (Int.tdiv (Go.IntKind.wrap Go.IntKind.i64 (Int.tdiv (Go.IntKind.wrap Go.IntKind.i64 (Int.tdiv (Go.IntKind.wrap Go.IntKind.i64 (Int.tdiv (Go.IntKind.wrap Go.IntKind.i64 (Int.tdiv 32 2)) 2)) 2)) 2)) 2)))
                                    (
                                    K (vi (0)) [])
                                    (
                                    K (vi (Go.IntKind.wrap Go.IntKind.i64 (Go.IntKind.wrap Go.IntKind.i64 (Go.IntKind.wrap Go.IntKind.i64 (Go.IntKind.wrap Go.IntKind.i64 (Go.IntKind.wrap Go.IntKind.i64 (Go.IntKind.wrap Go.IntKind.i64 (3 + List.getD xs 3 0) + Go.IntKind.wrap Go.IntKind.i64 (Int.tdiv (Go.IntKind.wrap Go.IntKind.i64 (List.getD xs 2 0 + 3)) 4)) + Go.IntKind.wrap Go.IntKind.i64 (5 * List.getD xs 2 0)) + Go.IntKind.wrap Go.IntKind.i64 (Go.IntKind.wrap Go.IntKind.i64 (Go.IntKind.wrap Go.IntKind.i64 (Go.IntKind.wrap Go.IntKind.i64 (Go.IntKind.wrap Go.IntKind.i64 (0 + 32) + Go.IntKind.wrap Go.IntKind.i64 (Int.tdiv 32 2)) + Go.IntKind.wrap Go.IntKind.i64 (Int.tdiv (Go.IntKind.wrap Go.IntKind.i64 (Int.tdiv 32 2)) 2)) + Go.IntKind.wrap Go.IntKind.i64 (Int.tdiv (Go.IntKind.wrap Go.IntKind.i64 (Int.tdiv (Go.IntKind.wrap Go.IntKind.i64 (Int.tdiv 32 2)) 2)) 2)) + Go.IntKind.wrap Go.IntKind.i64 (Int.tdiv (Go.IntKind.wrap Go.IntKind.i64 (Int.tdiv (Go.IntKind.wrap Go.IntKind.i64 (Int.tdiv (Go.IntKind.wrap Go.IntKind.i64 (Int.tdiv 32 2)) 2)) 2)) 2))) + List.getD xs 12 0) - 1))) [])))
                                (
                                br (!Decidable.decide (List.getD xs 12 0 ≤ Go.IntKind.wrap Go.IntKind.i64 (Int.tdiv (Go.IntKind.wrap Go.IntKind.i64 (Int.tdiv (Go.IntKind.wrap Go.IntKind.i64 (Int.tdiv (Go.IntKind.wrap Go.IntKind.i64 (Int.tdiv 32 2)) 2)) 2)) 2)))
                                  (
                                  K (vi (0)) [])
                                  (
                                  K (vi (Go.IntKind.wrap Go.IntKind.i64 (Go.IntKind.wrap Go.IntKind.i64 (Go.IntKind.wrap Go.IntKind.i64 (Go.IntKind.wrap Go.IntKind.i64 (Go.IntKind.wrap Go.IntKind.i64 (Go.IntKind.wrap Go.IntKind.i64 (3 + List.getD xs 3 0) + Go.IntKind.wrap Go.IntKind.i64 (Int.tdiv (Go.IntKind.wrap Go.IntKind.i64 (List.getD xs 2 0 + 3)) 4)) + Go.IntKind.wrap Go.IntKind.i64 (5 * List.getD xs 2 0)) + Go.IntKind.wrap Go.IntKind.i64 (Go.IntKind.wrap Go.IntKind.i64 (Go.IntKind.wrap Go.IntKind.i64 (Go.IntKind.wrap Go.IntKind.i64 (Go.IntKind.wrap Go.IntKind.i64 (0 + 32) + Go.IntKind.wrap Go.IntKind.i64 (Int.tdiv 32 2)) + Go.IntKind.wrap Go.IntKind.i64 (Int.tdiv (Go.IntKind.wrap Go.IntKind.i64 (Int.tdiv 32 2)) 2)) + Go.IntKind.wrap Go.IntKind.i64 (Int.tdiv (Go.IntKind.wrap Go.IntKind.i64 (Int.tdiv (Go.IntKind.wrap Go.IntKind.i64 (Int.tdiv 32 2)) 2)) 2)) + Go.IntKind.wrap Go.IntKind.i64 (Int.tdiv (Go.IntKind.wrap Go.IntKind.i64 (Int.tdiv (Go.IntKind.wrap Go.IntKind.i64 (Int.tdiv (Go.IntKind.wrap Go.IntKind.i64 (Int.tdiv 32 2)) 2)) 2)) 2))) + List.getD xs 12 0) - 1))) [])))
                              (
                              br (!Decidable.decide (List.getD xs 12 0 ≤ Go.IntKind.wrap Go.IntKind.i64 (Int.tdiv (Go.IntKind.wrap Go.IntKind.i64 (Int.tdiv (Go.IntKind.wrap Go.IntKind.i64 (Int.tdiv 32 2)) 2)) 2)))
                                (
                                K (vi (0)) [])
                                (
                                K (vi (Go.IntKind.wrap Go.IntKind.i64 (Go.IntKind.wrap Go.IntKind.i64 (Go.IntKind.wrap Go.IntKind.i64 (Go.IntKind.wrap Go.IntKind.i64 (Go.IntKind.wrap Go.IntKind.i64 (Go.IntKind.wrap Go.IntKind.i64 (3 + List.getD xs 3 0) + Go.IntKind.wrap Go.IntKind.i64 (Int.tdiv (Go.IntKind.wrap Go.IntKind.i64 (List.getD xs 2 0 + 3)) 4)) + Go.IntKind.wrap Go.IntKind.i64 (5 * List.getD xs 2 0)) + Go.IntKind.wrap Go.IntKind.i64 (Go.IntKind.wrap Go.IntKind.i64 (Go.IntKind.wrap Go.IntKind.i64 (Go.IntKind.wrap Go.IntKind.i64 (Go.IntKind.wrap Go.IntKind.i64 (0 + 32) + Go.IntKind.wrap Go.IntKind.i64 (Int.tdiv 32 2)) + Go.IntKind.wrap Go.IntKind.i64 (Int.tdiv (Go.IntKind.wrap Go.IntKind.i64 (Int.tdiv 32 2)) 2)) + Go.IntKind.wrap Go.IntKind.i64 (Int.tdiv (Go.IntKind.wrap Go.IntKind.i64 (Int.tdiv (Go.IntKind.wrap Go.IntKind.i64 (Int.tdiv 32 2)) 2)) 2)) + Go.IntKind.wrap Go.IntKind.i64 (Int.tdiv (Go.IntKind.wrap Go.IntKind.i64 (Int.tdiv (Go.IntKind.wrap Go.IntKind.i64 (Int.tdiv (Go.IntKind.wrap Go.IntKind.i64 (Int.tdiv 32 2)) 2)) 2)) 2))) + List.getD xs 12 0) - 1))) [])))
                            (
                            br (!Decidable.decide (List.getD xs 12 0 ≤ Go.IntKind.wrap Go.IntKind.i64 (Int.tdiv (Go.IntKind.wrap Go.IntKind.i64 (Int.tdiv 32 2)) 2)))
                              (
                              K (vi (0)) [])
                              (
                              K (vi (Go.IntKind.wrap Go.IntKind.i64 (Go.IntKind.wrap Go.IntKind.i64 (Go.IntKind.wrap Go.IntKind.i64 (Go.IntKind.wrap Go.IntKind.i64 (Go.IntKind.wrap Go.IntKind.i64 (Go.IntKind.wrap Go.IntKind.i64 (3 + List.getD xs 3 0) + Go.IntKind.wrap Go.IntKind.i64 (Int.tdiv (Go.IntKind.wrap Go.IntKind.i64 (List.getD xs 2 0 + 3)) 4)) + Go.IntKind.wrap Go.IntKind.i64 (5 * List.getD xs 2 0)) + Go.IntKind.wrap Go.IntKind.i64 (Go.IntKind.wrap Go.IntKind.i64 (Go.IntKind.wrap Go.IntKind.i64 (Go.IntKind.wrap Go.IntKind.i64 (Go.IntKind.wrap Go.IntKind.i64 (0 + 32) + Go.IntKind.wrap Go.IntKind.i64 (Int.tdiv 32 2)) + Go.IntKind.wrap Go.IntKind.i64 (Int.tdiv (Go.IntKind.wrap Go.IntKind.i64 (Int.tdiv 32 2)) 2)) + Go.IntKind.wrap Go.IntKind.i64 (Int.tdiv (Go.IntKind.wrap Go.IntKind.i64 (Int.tdiv (Go.IntKind.wrap Go.IntKind.i64 (Int.tdiv 32 2)) 2)) 2)) + Go.IntKind.wrap Go.IntKind.i64 (Int.tdiv (Go.IntKind.wrap Go.IntKind.i64 (Int.tdiv (Go.IntKind.wrap Go.IntKind.i64 (Int.tdiv (Go.IntKind.wrap Go.IntKind.i64 (Int.tdiv 32 2)) 2)) 2)) 2))) + List.getD xs 12 0) - 1))) [])))
                          (
                          br (!Decidable.decide (List.getD xs 12 0 ≤ Go.IntKind.wrap Go.IntKind.i64 (Int.tdiv 32 2)))
                            (
                            K (vi (0)) [])
                            (
                            K (vi (Go.IntKind.wrap Go.IntKind.i64 (Go.IntKind.wrap Go.IntKind.i64 (Go.IntKind.wrap Go.IntKind.i64 (Go.IntKind.wrap Go.IntKind.i64 (Go.IntKind.wrap Go.IntKind.i64 (Go.IntKind.wrap Go.IntKind.i64 (3 + List.getD xs 3 0) + Go.IntKind.wrap Go.IntKind.i64 (Int.tdiv (Go.IntKind.wrap Go.IntKind.i64 (List.getD xs 2 0 + 3)) 4)) + Go.IntKind.wrap Go.IntKind.i64 (5 * List.getD xs 2 0)) + Go.IntKind.wrap Go.IntKind.i64 (Go.IntKind.wrap Go.IntKind.i64 (Go.IntKind.wrap Go.IntKind.i64 (Go.IntKind.wrap Go.IntKind.i64 (Go.IntKind.wrap Go.IntKind.i64 (0 + 32) + Go.IntKind.wrap Go.IntKind.i64 (Int.tdiv 32 2)) + Go.IntKind.wrap Go.IntKind.i64 (Int.tdiv (Go.IntKind.wrap Go.IntKind.i64 (Int.tdiv 32 2)) 2)) + Go.IntKind.wrap Go.IntKind.i64 (Int.tdiv (Go.IntKind.wrap Go.IntKind.i64 (Int.tdiv (Go.IntKind.wrap Go.IntKind.i64 (Int.tdiv 32 2)) 2)) 2)) + Go.IntKind.wrap Go.IntKind.i64 (Int.tdiv (Go.IntKind.wrap Go.IntKind.i64 (Int.tdiv (Go.IntKind.wrap Go.IntKind.i64 (Int.tdiv (Go.IntKind.wrap Go.IntKind.i64 (Int.tdiv 32 2)) 2)) 2)) 2))) + List.getD xs 12 0) - 1))) [])))
                        (
                        br (!Decidable.decide (List.getD xs 12 0 ≤ 32))
                          (
                          K (vi (0)) [])
                          (
                          K (vi (Go.IntKind.wrap Go.IntKind.i64 (Go.IntKind.wrap Go.IntKind.i64 (Go.IntKind.wrap Go.IntKind.i64 (Go.IntKind.wrap Go.IntKind.i64 (Go.IntKind.wrap Go.IntKind.i64 (Go.IntKind.wrap Go.IntKind.i64 (3 + List.getD xs 3 0) + Go.IntKind.wrap Go.IntKind.i64 (Int.tdiv (Go.IntKind.wrap Go.IntKind.i64 (List.getD xs 2 0 + 3)) 4)) + Go.IntKind.wrap Go.IntKind.i64 (5 * List.getD xs 2 0)) + Go.IntKind.wrap Go.IntKind.i64 (Go.IntKind.wrap Go.IntKind.i64 (Go.IntKind.wrap Go.IntKind.i64 (Go.IntKind.wrap Go.IntKind.i64 (Go.IntKind.wrap Go.IntKind.i64 (0 + 32) + Go.IntKind.wrap Go.IntKind.i64 (Int.tdiv 32 2)) + Go.IntKind.wrap Go.IntKind.i64 (Int.tdiv (Go.IntKind.wrap Go.IntKind.i64 (Int.tdiv 32 2)) 2)) + Go.IntKind.wrap Go.IntKind.i64 (Int.tdiv (Go.IntKind.wrap Go.IntKind.i64 (Int.tdiv (Go.IntKind.wrap Go.IntKind.i64 (Int.tdiv 32 2)) 2)) 2)) + Go.IntKind.wrap Go.IntKind.i64 (Int.tdiv (Go.IntKind.wrap Go.IntKind.i64 (Int.tdiv (Go.IntKind.wrap Go.IntKind.i64 (Int.tdiv (Go.IntKind.wrap Go.IntKind.i64 (Int.tdiv 32 2)) 2)) 2)) 2))) + List.getD xs 12 0) - 1))) [])))
                      (
                      K (vi (0)) [])))
                  (
                  br (Decidable.decide (List.getD xs 12 0 ≥ 1))
                    (
                    br (Decidable.decide (0 < List.getD xs 11 0))
                      (
                      br (Decidable.decide (Go.IntKind.wrap Go.IntKind.i64 (0 + 1) < List.getD xs 11 0))
                        (
                        br (Decidable.decide (Go.IntKind.wrap Go.IntKind.i64 (Go.IntKind.wrap Go.IntKind.i64 (0 + 1) + 1) < List.getD xs 11 0))
                          (
                          br (Decidable.decide (Go.IntKind.wrap Go.IntKind.i64 (Go.IntKind.wrap Go.IntKind.i64 (Go.IntKind.wrap Go.IntKind.i64 (0 + 1) + 1) + 1) < List.getD xs 11 0))
                            (
                            br (Decidable.decide (Go.IntKind.wrap Go.IntKind.i64 (Go.IntKind.wrap Go.IntKind.i64 (Go.IntKind.wrap Go.IntKind.i64 (Go.IntKind.wrap Go.IntKind.i64 (0 + 1) + 1) + 1) + 1) < List.getD xs 11 0))
                              (
                              br (Decidable.decide (Go.IntKind.wrap Go.IntKind.i64 (Go.IntKind.wrap Go.IntKind.i64 (Go.IntKind.wrap Go.IntKind.i64 (Go.IntKind.wrap Go.IntKind.i64 (Go.IntKind.wrap Go.IntKind.i64 (0 + 1) + 1) + 1) + 1) + 1) < List.getD xs 11 0))
                                (
                                br (!Decidable.decide (List.getD xs 12 0 ≤ Go.IntKind.wrap Go.IntKind.i64 (Int.tdiv (Go.IntKind.wrap Go.IntKind.i64 (Int.tdiv (Go.IntKind.wrap Go.IntKind.i64 (Int.tdiv (Go.IntKind.wrap Go.IntKind.i64 (Int.tdiv (Go.IntKind.wrap Go.IntKind.i64 (Int.tdiv 32 2)) 2)) 2)) 2)) 2)))
                                  (
                                  K (vi (0)) [])
                                  (
                                  K (vi (Go.IntKind.wrap Go.IntKind.i64 (Go.IntKind.wrap Go.IntKind.i64 (Go.IntKind.wrap Go.IntKind.i64 (Go.IntKind.wrap Go.IntKind.i64 (Go.IntKind.wrap Go.IntKind.i64 (Go.IntKind.wrap Go.IntKind.i64 (3 + List.getD xs 3 0) + Go.IntKind.wrap Go.IntKind.i64 (Int.tdiv (Go.IntKind.wrap Go.IntKind.i64 (List.getD xs 2 0 + 3)) 4)) + Go.IntKind.wrap Go.IntKind.i64 (5 * List.getD xs 2 0)) + Go.IntKind.wrap Go.IntKind.i64 (Go.IntKind.wrap Go.IntKind.i64 (Go.IntKind.wrap Go.IntKind.i64 (Go.IntKind.wrap Go.IntKind.i64 (0 + 32) + Go.IntKind.wrap Go.IntKind.i64 (Int.tdiv 32 2)) + Go.IntKind.wrap Go.IntKind.i64 (Int.tdiv (Go.IntKind.wrap Go.IntKind.i64 (Int.tdiv 32 2)) 2)) + Go.IntKind.wrap Go.IntKind.i64 (Int.tdiv (Go.IntKind.wrap Go.IntKind.i64 (Int.tdiv (Go.IntKind.wrap Go.IntKind.i64 (Int.tdiv 32 2)) 2)) 2))) + List.getD xs 12 0) - 1))) []))
                                (
                                br (!Decidable.decide (List.getD xs 12 0 ≤ Go.IntKind.wrap Go.IntKind.i64 (Int.tdiv (Go.IntKind.wrap Go.IntKind.i64 (Int.tdiv (Go.IntKind.wrap Go.IntKind.i64 (Int.tdiv (Go.IntKind.wrap Go.IntKind.i64 (Int.tdiv (Go.IntKind.wrap Go.IntKind.i64 (Int.tdiv 32 2)) 2)) 2)) 2)) 2)))
                                  (
                                  K (vi (0)) [])
                                  (
                                  K (vi (Go.IntKind.wrap Go.IntKind.i64 (Go.IntKind.wrap Go.IntKind.i64 (Go.IntKind.wrap Go.IntKind.i64 (Go.IntKind.wrap Go.IntKind.i64 (Go.IntKind.wrap Go.IntKind.i64 (Go.IntKind.wrap Go.IntKind.i64 (3 + List.getD xs 3 0) + Go.IntKind.wrap Go.IntKind.i64 (Int.tdiv (Go.IntKind.wrap Go.IntKind.i64 (List.getD xs 2 0 + 3)) 4)) + Go.IntKind.wrap Go.IntKind.i64 (5 * List.getD xs 2 0)) + Go.IntKind.wrap Go.IntKind.i64 (Go.IntKind.wrap Go.IntKind.i64 (Go.IntKind.wrap Go.IntKind.i64 (Go.IntKind.wrap Go.IntKind.i64 (0 + 32) + Go.IntKind.wrap Go.IntKind.i64 (Int.tdiv 32 2)) + Go.IntKind.wrap Go.IntKind.i64 (Int.tdiv (Go.IntKind.wrap Go.IntKind.i64 (Int.tdiv 32 2)) 2)) + Go.IntKind.wrap Go.IntKind.i64 (Int.tdiv (Go.IntKind.wrap Go.IntKind.i64 (Int.tdiv (Go.IntKind.wrap Go.IntKind.i64 (Int.tdiv 32 2)) 2)) 2))) + List.getD xs 12 0) - 1))) [])))
                              (
                              br (!Decidable.decide (List.getD xs 12 0 ≤ Go.IntKind.wrap Go.IntKind.i64 (Int.tdiv (Go.IntKind.wrap Go.IntKind.i64 (Int.tdiv (Go.IntKind.wrap Go.IntKind.i64 (Int.tdiv (Go.IntKind.wrap Go.IntKind.i64 (Int.tdiv 32 2)) 2)) 2)) 2)))
                                (
                                K (vi (0)) [])
                                (
                                K (vi (Go.IntKind.wrap Go.IntKind.i64 (Go.IntKind.wrap Go.IntKind.i64 (Go.IntKind.wrap Go.IntKind.i64 (Go.IntKind.wrap Go.IntKind.i64 (Go.IntKind.wrap Go.IntKind.i64 (Go.IntKind.wrap Go.IntKind.i64 (3 + List.getD xs 3 0) + Go.IntKind.wrap Go.IntKind.i64 (Int.tdiv (Go.IntKind.wrap Go.IntKind.i64 (List.getD xs 2 0 + 3)) 4)) + Go.IntKind.wrap Go.IntKind.i64 (5 * List.getD xs 2 0)) + Go.IntKind.wrap Go.IntKind.i64 (Go.IntKind.wrap Go.IntKind.i64 (Go.IntKind.wrap Go.IntKind.i64 (Go.IntKind.wrap Go.IntKind.i64 (0 + 32) + Go.IntKind.wrap Go.IntKind.i64 (Int.tdiv 32 2)) + Go.IntKind.wrap Go.IntKind.i64 (Int.tdiv (Go.IntKind.wrap Go.IntKind.i64 (Int.tdiv 32 2)) 2)) + Go.IntKind.wrap Go.IntKind.i64 (Int.tdiv (Go.IntKind.wrap Go.IntKind.i64 (Int.tdiv (Go.IntKind.wrap Go.IntKind.i64 (Int.tdiv 32 2)) 2)) 2))) + List.getD xs 12 0) - 1))) [])))
                            (
                            br (!Decidable.decide (List.getD xs 12 0 ≤ Go.IntKind.wrap Go.IntKind.i64 (Int.tdiv (Go.IntKind.wrap Go.IntKind.i64 (Int.tdiv (Go.IntKind.wrap Go.IntKind.i64 (Int.tdiv 32 2)) 2)) 2)))
                              (
                              K (vi (0)) [])
                              (
                              K (vi (Go.IntKind.wrap Go.IntKind.i64 (Go.IntKind.wrap Go.IntKind.i64 (Go.IntKind.wrap Go.IntKind.i64 (Go.IntKind.wrap Go.IntKind.i64 (Go.IntKind.wrap Go.IntKind.i64 (Go.IntKind.wrap Go.IntKind.i64 (3 + List.getD xs 3 0) + Go.IntKind.wrap Go.IntKind.i64 (Int.tdiv (Go.IntKind.wrap Go.IntKind.i64 (List.getD xs 2 0 + 3)) 4)) + Go.IntKind.wrap Go.IntKind.i64 (5 * List.getD xs 2 0)) + Go.IntKind.wrap Go.IntKind.i64 (Go.IntKind.wrap Go.IntKind.i64 (Go.IntKind.wrap Go.IntKind.i64 (Go.IntKind.wrap Go.IntKind.i64 (0 + 32) + Go.IntKind.wrap Go.IntKind.i64 (Int.tdiv 32 2)) + Go.IntKind.wrap Go.IntKind.i64 (Int.tdiv (Go.IntKind.wrap Go.IntKind.i64 (Int.tdiv 32 2)) 2)) + Go.IntKind.wrap Go.IntKind.i64 (Int.tdiv (Go.IntKind.wrap Go.IntKind.i64 (Int.tdiv (Go.IntKind.wrap Go.IntKind.i64 (Int.tdiv 32 2)) 2)) 2))) + List.getD xs 12 0) - 1))) [])))
                          (
                          br (!Decidable.decide (List.getD xs 12 0 ≤ Go.IntKind.wrap Go.IntKind.i64 (Int.tdiv (Go.IntKind.wrap Go.IntKind.i64 (Int.tdiv 32 2)) 2)))
                            (
                            K (vi (0)) [])
                            (
                            K (vi (Go.IntKind.wrap Go.IntKind.i64 (Go.IntKind.wrap Go.IntKind.i64 (Go.IntKind.wrap Go.IntKind.i64 (Go.IntKind.wrap Go.IntKind.i64 (Go.IntKind.wrap Go.IntKind.i64 (Go.IntKind.wrap Go.IntKind.i64 (3 + List.getD xs 3 0) + Go.IntKind.wrap Go.IntKind.i64 (Int.tdiv (Go.IntKind.wrap Go.IntKind.i64 (List.getD xs 2 0 + 3)) 4)) + Go.IntKind.wrap Go.IntKind.i64 (5 * List.getD xs 2 0)) + Go.IntKind.wrap Go.IntKind.i64 (Go.IntKind.wrap Go.IntKind.i64 (Go.IntKind.wrap Go.IntKind.i64 (Go.IntKind.wrap Go.IntKind.i64 (0 + 32) + Go.IntKind.wrap Go.IntKind.i64 (Int.tdiv 32 2)) + Go.IntKind.wrap Go.IntKind.i64 (Int.tdiv (Go.IntKind.wrap Go.IntKind.i64 (Int.tdiv 32 2)) 2)) + Go.IntKind.wrap Go.IntKind.i64 (Int.tdiv (Go.IntKind.wrap Go.IntKind.i64 (Int.tdiv (Go.IntKind.wrap Go.IntKind.i64 (Int.tdiv 32 2)) 2)) 2))) + List.getD xs 12 0) - 1))) [])))
                        (
                        br (!Decidable.decide (List.getD xs 12 0 ≤ Go.IntKind.wrap Go.IntKind.i64 (Int.tdiv 32 2)))
                          (
                          K (vi (0)) [])
                          (
                          K (vi (Go.IntKind.wrap Go.IntKind.i64 (Go.IntKind.wrap Go.IntKind.i64 (Go.IntKind.wrap Go.IntKind.i64 (Go.IntKind.wrap Go.IntKind.i64 (Go.IntKind.wrap Go.IntKind.i64 (Go.IntKind.wrap Go.IntKind.i64 (3 + List.getD xs 3 0) + Go.IntKind.wrap Go.IntKind.i64 (Int.tdiv (Go.IntKind.wrap Go.IntKind.i64 (List.getD xs 2 0 + 3)) 4)) + Go.IntKind.wrap Go.IntKind.i64 (5 * List.getD xs 2 0)) + Go.IntKind.wrap Go.IntKind.i64 (Go.IntKind.wrap Go.IntKind.i64 (Go.IntKind.wrap Go.IntKind.i64 (Go.IntKind.wrap Go.IntKind.i64 (0 + 32) + Go.IntKind.wrap Go.IntKind.i64 (Int.tdiv 32 2)) + Go.IntKind.wrap Go.IntKind.i64 (Int.tdiv (Go.IntKind.wrap Go.IntKind.i64 (Int.tdiv 32 2)) 2)) + Go.IntKind.wrap Go.IntKind.i64 (Int.tdiv (Go.IntKind.wrap Go.IntKind.i64 (Int.tdiv (Go.IntKind.wrap Go.IntKind.i64 (Int.tdiv 32 2)) 2)) 2))) + List.getD xs 12 0) - 1))) [])))
                      (
                      br (!Decidable.decide (List.getD xs 12 0 ≤ 32))
                        (
                        K (vi (0)) [])
                        (
                        K (vi (Go.IntKind.wrap Go.IntKind.i64 (Go.IntKind.wrap Go.IntKind.i64 (Go.IntKind.wrap Go.IntKind.i64 (Go.IntKind.wrap Go.IntKind.i64 (Go.IntKind.wrap Go.IntKind.i64 (Go.IntKind.wrap Go.IntKind.i64 (3 + List.getD xs 3 0) + Go.IntKind.wrap Go.IntKind.i64 (Int.tdiv (Go.IntKind.wrap Go.IntKind.i64 (List.getD xs 2 0 + 3)) 4)) + Go.IntKind.wrap Go.IntKind.i64 (5 * List.getD xs 2 0)) + Go.IntKind.wrap Go.IntKind.i64 (Go.IntKind.wrap Go.IntKind.i64 (Go.IntKind.wrap Go.IntKind.i64 (Go.IntKind.wrap Go.IntKind.i64 (0 + 32) + Go.IntKind.wrap Go.IntKind.i64 (Int.tdiv 32 2)) + Go.IntKind.wrap Go.IntKind.i64 (Int.tdiv (Go.IntKind.wrap Go.IntKind.i64 (Int.tdiv 32 2)) 2)) + Go.IntKind.wrap Go.IntKind.i64 (Int.tdiv (Go.IntKind.wrap Go.IntKind.i64 (Int.tdiv (Go.IntKind.wrap Go.IntKind.i64 (Int.tdiv 32 2)) 2)) 2))) + List.getD xs 12 0) - 1))) [])))
                    (
                    K (vi (0)) [])))
                (
                br (Decidable.decide (List.getD xs 12 0 ≥ 1))
                  (
                  br (Decidable.decide (0 < List.getD xs 11 0))
                    (
                    br (Decidable.decide (Go.IntKind.wrap Go.IntKind.i64 (0 + 1) < List.getD xs 11 0))
                      (
                      br (Decidable.decide (Go.IntKind.wrap Go.IntKind.i64 (Go.IntKind.wrap Go.IntKind.i64 (0 + 1) + 1) < List.getD xs 11 0))
                        (
                        br (Decidable.decide (Go.IntKind.wrap Go.IntKind.i64 (Go.IntKind.wrap Go.IntKind.i64 (Go.IntKind.wrap Go.IntKind.i64 (0 + 1) + 1) + 1) < List.getD xs 11 0))
                          (
                          br (Decidable.decide (Go.IntKind.wrap Go.IntKind.i64 (Go.IntKind.wrap Go.IntKind.i64 (Go.IntKind.wrap Go.IntKind.i64 (Go.IntKind.wrap Go.IntKind.i64 (0 + 1) + 1) + 1) + 1) < List.getD xs 11 0))
                            (
                            br (Decidable.decide (Go.IntKind.wrap Go.IntKind.i64 (Go.IntKind.wrap Go.IntKind.i64 (Go.IntKind.wrap Go.IntKind.i64 (Go.IntKind.wrap Go.IntKind.i64 (Go.IntKind.wrap Go.IntKind.i64 (0 + 1) + 1) + 1) + 1) + 1) < List.getD xs 11 0))
                              (
                              br (!Decidable.decide (List.getD xs 12 0 ≤ Go.IntKind.wrap Go.IntKind.i64 (Int.tdiv (Go.IntKind.wrap Go.IntKind.i64 (Int.tdiv (Go.IntKind.wrap Go.IntKind.i64 (Int.tdiv (Go.IntKind.wrap Go.IntKind.i64 (Int.tdiv (Go.IntKind.wrap Go.IntKind.i64 (Int.tdiv 32 2)) 2)) 2)) 2)) 2)))
                                (
                                K (vi (0)) [])
                                (
                                K (vi (Go.IntKind.wrap Go.IntKind.i64 (Go.IntKind.wrap Go.IntKind.i64 (Go.IntKind.wrap Go.IntKind.i64 (Go.IntKind.wrap Go.IntKind.i64 (Go.IntKind.wrap Go.IntKind.i64 (Go.IntKind.wrap Go.IntKind.i64 (3 + List.getD xs 3 0) + Go.IntKind.wrap Go.IntKind.i64 (Int.tdiv (Go.IntKind.wrap Go.IntKind.i64 (List.getD xs 2 0 + 3)) 4)) + Go.IntKind.wrap Go.IntKind.i64 (5 * List.getD xs 2 0)) + Go.IntKind.wrap Go.IntKind.i64 (Go.IntKind.wrap Go.IntKind.i64 (Go.IntKind.wrap Go.IntKind.i64 (0 + 32) + Go.IntKind.wrap Go.IntKind.i64 (Int.tdiv 32 2)) + Go.IntKind.wrap Go.IntKind.i64 (Int.tdiv (Go.IntKind.wrap Go.IntKind.i64 (Int.tdiv 32 2)) 2))) + List.getD xs 12 0) - 1))) []))
                              (
                              br (!Decidable.decide (List.getD xs 12 0 ≤ Go.IntKind.wrap Go.IntKind.i64 (Int.tdiv (Go.IntKind.wrap Go.IntKind.i64 (Int.tdiv (Go.IntKind.wrap Go.IntKind.i64 (Int.tdiv (Go.IntKind.wrap Go.IntKind.i64 (Int.tdiv (Go.IntKind.wrap Go.IntKind.i64 (Int.tdiv 32 2)) 2)) 2)) 2)) 2)))
                                (
                                K (vi (0)) [])
                                (
                                K (vi (Go.IntKind.wrap Go.IntKind.i64 (Go.IntKind.wrap Go.IntKind.i64 (Go.IntKind.wrap Go.IntKind.i64 (Go.IntKind.wrap Go.IntKind.i64 (Go.IntKind.wrap Go.IntKind.i64 (Go.IntKind.wrap Go.IntKind.i64 (3 + List.getD xs 3 0) + Go.IntKind.wrap Go.IntKind.i64 (Int.tdiv (Go.IntKind.wrap Go.IntKind.i64 (List.getD xs 2 0 + 3)) 4)) + Go.IntKind.wrap Go.IntKind.i64 (5 * List.getD xs 2 0)) + Go.IntKind.wrap Go.IntKind.i64 (Go.IntKind.wrap Go.IntKind.i64 (Go.IntKind.wrap Go.IntKind.i64 (0 + 32) + Go.IntKind.wrap Go.IntKind.i64 (Int.tdiv 32 2)) + Go.IntKind.wrap Go.IntKind.i64 (Int.tdiv (Go.IntKind.wrap Go.IntKind.i64 (Int.tdiv 32 2)) 2))) + List.getD xs 12 0) - 1))) [])))
                            (
                            br (!Decidable.decide (List.getD xs 12 0 ≤ Go.IntKind.wrap Go.IntKind.i64 (Int.tdiv (Go.IntKind.wrap Go.IntKind.i64 (Int.tdiv (Go.IntKind.wrap Go.IntKind.i64 (Int.tdiv (Go.IntKind.wrap Go.IntKind.i64 (Int.tdiv 32 2)) 2)) 2)) 2)))
                              (
                              K (vi (0)) [])
                              (
                              K (vi (Go.IntKind.wrap Go.IntKind.i64 (Go.IntKind.wrap Go.IntKind.i64 (Go.IntKind.wrap Go.IntKind.i64 (Go.IntKind.wrap Go.IntKind.i64 (Go.IntKind.wrap Go.IntKind.i64 (Go.IntKind.wrap Go.IntKind.i64 (3 + List.getD xs 3 0) + Go.IntKind.wrap Go.IntKind.i64 (Int.tdiv (Go.IntKind.wrap Go.IntKind.i64 (List.getD xs 2 0 + 3)) 4)) + Go.IntKind.wrap Go.IntKind.i64 (5 * List.getD xs 2 0)) + Go.IntKind.wrap Go.IntKind.i64 (Go.IntKind.wrap Go.IntKind.i64 (Go.IntKind.wrap Go.IntKind.i64 (0 + 32) + Go.IntKind.wrap Go.IntKind.i64 (Int.tdiv 32 2)) + Go.IntKind.wrap Go.IntKind.i64 (Int.tdiv (Go.IntKind.wrap Go.IntKind.i64 (Int.tdiv 32 2)) 2))) + List.getD xs 12 0) - 1))) [])))
                          (
                          br (!Decidable.decide (List.getD xs 12 0 ≤ Go.IntKind.wrap Go.IntKind.i64 (Int.tdiv (Go.IntKind.wrap Go.IntKind.i64 (Int.tdiv (Go.IntKind.wrap Go.IntKind.i64 (Int.tdiv 32 2)) 2)) 2)))
                            (
                            K (vi (0)) [])
                            (
                            K (vi (Go.IntKind.wrap Go.IntKind.i64 (Go.IntKind.wrap Go.IntKind.i64 (Go.IntKind.wrap Go.IntKind.i64 (Go.IntKind.wrap Go.IntKind.i64 (Go.IntKind.wrap Go.IntKind.i64 (Go.IntKind.wrap Go.IntKind.i64 (3 + List.getD xs 3 0) + Go.IntKind.wrap Go.IntKind.i64 (Int.tdiv (Go.IntKind.wrap Go.IntKind.i64 (List.getD xs 2 0 + 3)) 4)) + Go.IntKind.wrap Go.IntKind.i64 (5 * List.getD xs 2 0)) + Go.IntKind.wrap Go.IntKind.i64 (Go.IntKind.wrap Go.IntKind.i64 (Go.IntKind.wrap Go.IntKind.i64 (0 + 32) + Go.IntKind.wrap Go.IntKind.i64 (Int.tdiv 32 2)) + Go.IntKind.wrap Go.IntKind.i64 (Int.tdiv (Go.IntKind.wrap Go.IntKind.i64 (Int.tdiv 32 2)) 2))) + List.getD xs 12 0) - 1))) [])))
                        (
                        br (!Decidable.decide (List.getD xs 12 0 ≤ Go.IntKind.wrap Go.IntKind.i64 (Int.tdiv (Go.IntKind.wrap Go.IntKind.i64 (Int.tdiv 32 2)) 2)))
                          (
                          K (vi (0)) [])
                          (
                          K (vi (Go.IntKind.wrap Go.IntKind.i64 (Go.IntKind.wrap Go.IntKind.i64 (Go.IntKind.wrap Go.IntKind.i64 (Go.IntKind.wrap Go.IntKind.i64 (Go.IntKind.wrap Go.IntKind.i64 (Go.IntKind.wrap Go.IntKind.i64 (3 + List.getD xs 3 0) + Go.IntKind.wrap Go.IntKind.i64 (Int.tdiv (Go.IntKind.wrap Go.IntKind.i64 (List.getD xs 2 0 + 3)) 4)) + Go.IntKind.wrap Go.IntKind.i64 (5 * List.getD xs 2 0)) + Go.IntKind.wrap Go.IntKind.i64 (Go.IntKind.wrap Go.IntKind.i64 (Go.IntKind.wrap Go.IntKind.i64 (0 + 32) + Go.IntKind.wrap Go.IntKind.i64 (Int.tdiv 32 2)) + Go.IntKind.wrap Go.IntKind.i64 (Int.tdiv (Go.IntKind.wrap Go.IntKind.i64 (Int.tdiv 32 2)) 2))) + List.getD xs 12 0) - 1))) [])))
                      (
                      br (!Decidable.decide (List.getD xs 12 0 ≤ Go.IntKind.wrap Go.IntKind.i64 (Int.tdiv 32 2)))
                        (
                        K (vi (0)) [])
                        (
                        K (vi (Go.IntKind.wrap Go.IntKind.i64 (Go.IntKind.wrap Go.IntKind.i64 (Go.IntKind.wrap Go.IntKind.i64 (Go.IntKind.wrap Go.IntKind.i64 (Go.IntKind.wrap Go.IntKind.i64 (Go.IntKind.wrap Go.IntKind.i64 (3 + List.getD xs 3 0) + Go.IntKind.wrap Go.IntKind.i64 (Int.tdiv (Go.IntKind.wrap Go.IntKind.i64 (List.getD xs 2 0 + 3)) 4)) + Go.IntKind.wrap Go.IntKind.i64 (5 * List.getD xs 2 0)) + Go.IntKind.wrap Go.IntKind.i64 (Go.IntKind.wrap Go.IntKind.i64 (Go.IntKind.wrap Go.IntKind.i64 (0 + 32) + Go.IntKind.wrap Go.IntKind.i64 (Int.tdiv 32 2)) + Go.IntKind.wrap Go.IntKind.i64 (Int.tdiv (Go.IntKind.wrap Go.IntKind.i64 (Int.tdiv 32 2)) 2))) + List.getD xs 12 0) - 1))) [])))
                    (
                    br (!Decidable.decide (List.getD xs 12 0 ≤ 32))
                      (
                      K (vi (0)) [])
                      (
                      K (vi (Go.IntKind.wrap Go.IntKind.i64 (Go.IntKind.wrap Go.IntKind.i64 (Go.IntKind.wrap Go.IntKind.i64 (Go.IntKind.wrap Go.IntKind.i64 (Go.IntKind.wrap Go.IntKind.i64 (Go.IntKind.wrap Go.IntKind.i64 (3 + List.getD xs 3 0) + Go.IntKind.wrap Go.IntKind.i64 (Int.tdiv (Go.IntKind.wrap Go.IntKind.i64 (List.getD xs 2 0 + 3)) 4)) + Go.IntKind.wrap Go.IntKind.i64 (5 * List.getD xs 2 0)) + Go.IntKind.wrap Go.IntKind.i64 (Go.IntKind.wrap Go.IntKind.i64 (Go.IntKind.wrap Go.IntKind.i64 (0 + 32) + Go.IntKind.wrap Go.IntKind.i64 (Int.tdiv 32 2)) + Go.IntKind.wrap Go.IntKind.i64 (Int.tdiv (Go.IntKind.wrap Go.IntKind.i64 (Int.tdiv 32 2)) 2))) + List.getD xs 12 0) - 1))) [])))
                  (
                  K (vi (0)) [])))
              (
              br (Decidable.decide (List.getD xs 12 0 ≥ 1))
                (
                br (Decidable.decide (0 < List.getD xs 11 0))
                  (
                  br (Decidable.decide (Go.IntKind.wrap Go.IntKind.i64 (0 + 1) < List.getD xs 11 0))
                    (
                    br (Decidable.decide (Go.IntKind.wrap Go.IntKind.i64 (Go.IntKind.wrap Go.IntKind.i64 (0 + 1) + 1) < List.getD xs 11 0))
                      (
                      br (Decidable.decide (Go.IntKind.wrap Go.IntKind.i64 (Go.IntKind.wrap Go.IntKind.i64 (Go.IntKind.wrap Go.IntKind.i64 (0 + 1) + 1) + 1) < List.getD xs 11 0))
                        (
                        br (Decidable.decide (Go.IntKind.wrap Go.IntKind.i64 (Go.IntKind.wrap Go.IntKind.i64 (Go.IntKind.wrap Go.IntKind.i64 (Go.IntKind.wrap Go.IntKind.i64 (0 + 1) + 1) + 1) + 1) < List.getD xs 11 0))
                          (
                          br (Decidable.decide (Go.IntKind.wrap Go.IntKind.i64 (Go.IntKind.wrap Go.IntKind.i64 (Go.IntKind.wrap Go.IntKind.i64 (Go.IntKind.wrap Go.IntKind.i64 (Go.IntKind.wrap Go.IntKind.i64 (0 + 1) + 1) + 1) + 1) + 1) < List.getD xs 11 0))
                            (
                            br (!Decidable.decide (List.getD xs 12 0 ≤ Go.IntKind.wrap Go.IntKind.i64 (Int.tdiv (Go.IntKind.wrap Go.IntKind.i64 (Int.tdiv (Go.IntKind.wrap Go.IntKind.i64 (Int.tdiv (Go.IntKind.wrap Go.IntKind.i64 (Int.tdiv (Go.IntKind.wrap Go.IntKind.i64 (Int.tdiv 32 2)) 2)) 2)) 2)) 2)))
                              (
                              K (vi (0)) [])
                              (
                              K (vi (Go.IntKind.wrap Go.IntKind.i64 (Go.IntKind.wrap Go.IntKind.i64 (Go.IntKind.wrap Go.IntKind.i64 (Go.IntKind.wrap Go.IntKind.i64 (Go.IntKind.wrap Go.IntKind.i64 (Go.IntKind.wrap Go.IntKind.i64 (3 + List.getD xs 3 0) + Go.IntKind.wrap Go.IntKind.i64 (Int.tdiv (Go.IntKind.wrap Go.IntKind.i64 (List.getD xs 2 0 + 3)) 4)) + Go.IntKind.wrap Go.IntKind.i64 (5 * List.getD xs 2 0)) + Go.IntKind.wrap Go.IntKind.i64 (Go.IntKind.wrap Go.IntKind.i64 (0 + 32) + Go.IntKind.wrap Go.IntKind.i64 (Int.tdiv 32 2))) + List.getD xs 12 0) - 1))) []))
                            (
                            br (!Decidable.decide (List.getD xs 12 0 ≤ Go.IntKind.wrap Go.IntKind.i64 (Int.tdiv (Go.IntKind.wrap Go.IntKind.i64 (Int.tdiv (Go.IntKind.wrap Go.IntKind.i64 (Int.tdiv (Go.IntKind.wrap Go.IntKind.i64 (Int.tdiv (Go.IntKind.wrap Go.IntKind.i64 (Int.tdiv 32 2)) 2)) 2)) 2)) 2)))
                              (
                              K (vi (0)) [])
                              (
                              K (vi (Go.IntKind.wrap Go.IntKind.i64 (Go.IntKind.wrap Go.IntKind.i64 (Go.IntKind.wrap Go.IntKind.i64 (Go.IntKind.wrap Go.IntKind.i64 (Go.IntKind.wrap Go.IntKind.i64 (Go.IntKind.wrap Go.IntKind.i64 (3 + List.getD xs 3 0) + Go.IntKind.wrap Go.IntKind.i64 (Int.tdiv (Go.IntKind.wrap Go.IntKind.i64 (List.getD xs 2 0 + 3)) 4)) + Go.IntKind.wrap Go.IntKind.i64 (5 * List.getD xs 2 0)) + Go.IntKind.wrap Go.IntKind.i64 (Go.IntKind.wrap Go.IntKind.i64 (0 + 32) + Go.IntKind.wrap Go.IntKind.i64 (Int.tdiv 32 2))) + List.getD xs 12 0) - 1))) [])))
                          (
                          br (!Decidable.decide (List.getD xs 12 0 ≤ Go.IntKind.wrap Go.IntKind.i64 (Int.tdiv (Go.IntKind.wrap Go.IntKind.i64 (Int.tdiv (Go.IntKind.wrap Go.IntKind.i64 (Int.tdiv (Go.IntKind.wrap Go.IntKind.i64 (Int.tdiv 32 2)) 2)) 2)) 2)))
                            (
                            K (vi (0)) [])
                            (
                            K (vi (Go.IntKind.wrap Go.IntKind.i64 (Go.IntKind.wrap Go.IntKind.i64 (Go.IntKind.wrap Go.IntKind.i64 (Go.IntKind.wrap Go.IntKind.i64 (Go.IntKind.wrap Go.IntKind.i64 (Go.IntKind.wrap Go.IntKind.i64 (3 + List.getD xs 3 0) + Go.IntKind.wrap Go.IntKind.i64 (Int.tdiv (Go.IntKind.wrap Go.IntKind.i64 (List.getD xs 2 0 + 3)) 4)) + Go.IntKind.wrap Go.IntKind.i64 (5 * List.getD xs 2 0)) + Go.IntKind.wrap Go.IntKind.i64 (Go.IntKind.wrap Go.IntKind.i64 (0 + 32) + Go.IntKind.wrap Go.IntKind.i64 (Int.tdiv 32 2))) + List.getD xs 12 0) - 1))) [])))
                        (
                        br (!Decidable.decide (List.getD xs 12 0 ≤ Go.IntKind.wrap Go.IntKind.i64 (Int.tdiv (Go.IntKind.wrap Go.IntKind.i64 (Int.tdiv (Go.IntKind.wrap Go.IntKind.i64 (Int.tdiv 32 2)) 2)) 2)))
                          (
                          K (vi (0)) [])
                          (
                          K (vi (Go.IntKind.wrap Go.IntKind.i64 (Go.IntKind.wrap Go.IntKind.i64 (Go.IntKind.wrap Go.IntKind.i64 (Go.IntKind.wrap Go.IntKind.i64 (Go.IntKind.wrap Go.IntKind.i64 (Go.IntKind.wrap Go.IntKind.i64 (3 + List.getD xs 3 0) + Go.IntKind.wrap Go.IntKind.i64 (Int.tdiv (Go.IntKind.wrap Go.IntKind.i64 (List.getD xs 2 0 + 3)) 4)) + Go.IntKind.wrap Go.IntKind.i64 (5 * List.getD xs 2 0)) + Go.IntKind.wrap Go.IntKind.i64 (Go.IntKind.wrap Go.IntKind.i64 (0 + 32) + Go.IntKind.wrap Go.IntKind.i64 (Int.tdiv 32 2))) + List.getD xs 12 0) - 1))) [])))
                      (
                      br (!Decidable.decide (List.getD xs 12 0 ≤ Go.IntKind.wrap Go.IntKind.i64 (Int.tdiv (Go.IntKind.wrap Go.IntKind.i64 (Int.tdiv 32 2)) 2)))
                        (
                        K (vi (0)) [])
                        (
                        K (vi (Go.IntKind.wrap Go.IntKind.i64 (Go.IntKind.wrap Go.IntKind.i64 (Go.IntKind.wrap Go.IntKind.i64 (Go.IntKind.wrap Go.IntKind.i64 (Go.IntKind.wrap Go.IntKind.i64 (Go.IntKind.wrap Go.IntKind.i64 (3 + List.getD xs 3 0) + Go.IntKind.wrap Go.IntKind.i64 (Int.tdiv (Go.IntKind.wrap Go.IntKind.i64 (List.getD xs 2 0 + 3)) 4)) + Go.IntKind.wrap Go.IntKind.i64 (5 * List.getD xs 2 0)) + Go.IntKind.wrap Go.IntKind.i64 (Go.IntKind.wrap Go.IntKind.i64 (0 + 32) + Go.IntKind.wrap Go.IntKind.i64 (Int.tdiv 32 2))) + List.getD xs 12 0) - 1))) [])))
                    (
                    br (!Decidable.decide (List.getD xs 12 0 ≤ Go.IntKind.wrap Go.IntKind.i64 (Int.tdiv 32 2)))
                      (
                      K (vi (0)) [])
                      (
                      K (vi (Go.IntKind.wrap Go.IntKind.i64 (Go.IntKind.wrap Go.IntKind.i64 (Go.IntKind.wrap Go.IntKind.i64 (Go.IntKind.wrap Go.IntKind.i64 (Go.IntKind.wrap Go.IntKind.i64 (Go.IntKind.wrap Go.IntKind.i64 (3 + List.getD xs 3 0) + Go.IntKind.wrap Go.IntKind.i64 (Int.tdiv (Go.IntKind.wrap Go.IntKind.i64 (List.getD xs 2 0 + 3)) 4)) + Go.IntKind.wrap Go.IntKind.i64 (5 * List.getD xs 2 0)) + Go.IntKind.wrap Go.IntKind.i64 (Go.IntKind.wrap Go.IntKind.i64 (0 + 32) + Go.IntKind.wrap Go.IntKind.i64 (Int.tdiv 32 2))) + List.getD xs 12 0) - 1))) [])))
                  (
                  br (!Decidable.decide (List.getD xs 12 0 ≤ 32))
                    (
                    K (vi (0)) [])
                    (
                    K (vi (Go.IntKind.wrap Go.IntKind.i64 (Go.IntKind.wrap Go.IntKind.i64 (Go.IntKind.wrap Go.IntKind.i64 (Go.IntKind.wrap Go.IntKind.i64 (Go.IntKind.wrap Go.IntKind.i64 (Go.IntKind.wrap Go.IntKind.i64 (3 + List.getD xs 3 0) + Go.IntKind.wrap Go.IntKind.i64 (Int.tdiv (Go.IntKind.wrap Go.IntKind.i64 (List.getD xs 2 0 + 3)) 4)) + Go.IntKind.wrap Go.IntKind.i64 (5 * List.getD xs 2 0)) + Go.IntKind.wrap Go.IntKind.i64 (Go.IntKind.wrap Go.IntKind.i64 (0 + 32) + Go.IntKind.wrap Go.IntKind.i64 (Int.tdiv 32 2))) + List.getD xs 12 0) - 1))) [])))
                (
                K (vi (0)) [])))
            (
            br (Decidable.decide (List.getD xs 12 0 ≥ 1))
              (
              br (Decidable.decide (0 < List.getD xs 11 0))
                (
                br (Decidable.decide (Go.IntKind.wrap Go.IntKind.i64 (0 + 1) < List.getD xs 11 0))
                  (
                  br (Decidable.decide (Go.IntKind.wrap Go.IntKind.i64 (Go.IntKind.wrap Go.IntKind.i64 (0 + 1) + 1) < List.getD xs 11 0))
                    (
                    br (Decidable.decide (Go.IntKind.wrap Go.IntKind.i64 (Go.IntKind.wrap Go.IntKind.i64 (Go.IntKind.wrap Go.IntKind.i64 (0 + 1) + 1) + 1) < List.getD xs 11 0))
                      (
                      br (Decidable.decide (Go.IntKind.wrap Go.IntKind.i64 (Go.IntKind.wrap Go.IntKind.i64 (Go.IntKind.wrap Go.IntKind.i64 (Go.IntKind.wrap Go.IntKind.i64 (0 + 1) + 1) + 1) + 1) < List.getD xs 11 0))
                        (
                        br (Decidable.decide (Go.IntKind.wrap Go.IntKind.i64 (Go.IntKind.wrap Go.IntKind.i64 (Go.IntKind.wrap Go.IntKind.i64 (Go.IntKind.wrap Go.IntKind.i64 (Go.IntKind.wrap Go.IntKind.i64 (0 + 1) + 1) + 1) + 1) + 1) < List.getD xs 11 0))
                          (
                          br (!Decidable.decide (List.getD xs 12 0 ≤ Go.IntKind.wrap Go.IntKind.i64 (Int.tdiv (Go.IntKind.wrap Go.IntKind.i64 (Int.tdiv (Go.IntKind.wrap Go.IntKind.i64 (Int.tdiv (Go.IntKind.wrap Go.IntKind.i64 (Int.tdiv (Go.IntKind.wrap Go.IntKind.i64 (Int.tdiv 32 2)) 2)) 2)) 2)) 2)))
                            (
                            K (vi (0)) [])
                            (
                            K (vi (Go.IntKind.wrap Go.IntKind.i64 (Go.IntKind.wrap Go.IntKind.i64 (Go.IntKind.wrap Go.IntKind.i64 (Go.IntKind.wrap Go.IntKind.i64 (Go.IntKind.wrap Go.IntKind.i64 (Go.IntKind.wrap Go.IntKind.i64 (3 + List.getD xs 3 0) + Go.IntKind.wrap Go.IntKind.i64 (Int.tdiv (Go.IntKind.wrap Go.IntKind.i64 (List.getD xs 2 0 + 3)) 4)) + Go.IntKind.wrap Go.IntKind.i64 (5 * List.getD xs 2 0)) + Go.IntKind.wrap Go.IntKind.i64 (0 + 32)) + List.getD xs 12 0) - 1))) []))
                          (
                          br (!Decidable.decide (List.getD xs 12 0 ≤ Go.IntKind.wrap Go.IntKind.i64 (Int.tdiv (Go.IntKind.wrap Go.IntKind.i64 (Int.tdiv (Go.IntKind.wrap Go.IntKind.i64 (Int.tdiv (Go.IntKind.wrap Go.IntKind.i64 (Int.tdiv (Go.IntKind.wrap Go.IntKind.i64 (Int.tdiv 32 2)) 2)) 2)) 2)) 2)))
                            (
                            K (vi (0)) [])
                            (
                            K (vi (Go.IntKind.wrap Go.IntKind.i64 (Go.IntKind.wrap Go.IntKind.i64 (Go.IntKind.wrap Go.IntKind.i64 (Go.IntKind.wrap Go.IntKind.i64 (Go.IntKind.wrap Go.IntKind.i64 (Go.IntKind.wrap Go.IntKind.i64 (3 + List.getD xs 3 0) + Go.IntKind.wrap Go.IntKind.i64 (Int.tdiv (Go.IntKind.wrap Go.IntKind.i64 (List.getD xs 2 0 + 3)) 4)) + Go.IntKind.wrap Go.IntKind.i64 (5 * List.getD xs 2 0)) + Go.IntKind.wrap Go.IntKind.i64 (0 + 32)) + List.getD xs 12 0) - 1))) [])))
                        (
                        br (!Decidable.decide (List.getD xs 12 0 ≤ Go.IntKind.wrap Go.IntKind.i64 (Int.tdiv (Go.IntKind.wrap Go.IntKind.i64 (Int.tdiv (Go.IntKind.wrap Go.IntKind.i64 (Int.tdiv (Go.IntKind.wrap Go.IntKind.i64 (Int.tdiv 32 2)) 2)) 2)) 2)))
                          (
                          K (vi (0)) [])
                          (
                          K (vi (Go.IntKind.wrap Go.IntKind.i64 (Go.IntKind.wrap Go.IntKind.i64 (Go.IntKind.wrap Go.IntKind.i64 (Go.IntKind.wrap Go.IntKind.i64 (Go.IntKind.wrap Go.IntKind.i64 (Go.IntKind.wrap Go.IntKind.i64 (3 + List.getD xs 3 0) + Go.IntKind.wrap Go.IntKind.i64 (Int.tdiv (Go.IntKind.wrap Go.IntKind.i64 (List.getD xs 2 0 + 3)) 4)) + Go.IntKind.wrap Go.IntKind.i64 (5 * List.getD xs 2 0)) + Go.IntKind.wrap Go.IntKind.i64 (0 + 32)) + List.getD xs 12 0) - 1))) [])))
                      (
                      br (!Decidable.decide (List.getD xs 12 0 ≤ Go.IntKind.wrap Go.IntKind.i64 (Int.tdiv (Go.IntKind.wrap Go.IntKind.i64 (Int.tdiv (Go.IntKind.wrap Go.IntKind.i64 (Int.tdiv 32 2)) 2)) 2)))
                        (
                        K (vi (0)) [])
                        (
                        K (vi (Go.IntKind.wrap Go.IntKind.i64 (Go.IntKind.wrap Go.IntKind.i64 (Go.IntKind.wrap Go.IntKind.i64 (Go.IntKind.wrap Go.IntKind.i64 (Go.IntKind.wrap Go.IntKind.i64 (Go.IntKind.wrap Go.IntKind.i64 (3 + List.getD xs 3 0) + Go.IntKind.wrap Go.IntKind.i64 (Int.tdiv (Go.IntKind.wrap Go.IntKind.i64 (List.getD xs 2 0 + 3)) 4)) + Go.IntKind.wrap Go.IntKind.i64 (5 * List.getD xs 2 0)) + Go.IntKind.wrap Go.IntKind.i64 (0 + 32)) + List.getD xs 12 0) - 1))) [])))
                    (
                    br (!Decidable.decide (List.getD xs 12 0 ≤ Go.IntKind.wrap Go.IntKind.i64 (Int.tdiv (Go.IntKind.wrap Go.IntKind.i64 (Int.tdiv 32 2)) 2)))
                      (
                      K (vi (0)) [])
                      (
                      K (vi (Go.IntKind.wrap Go.IntKind.i64 (Go.IntKind.wrap Go.IntKind.i64 (Go.IntKind.wrap Go.IntKind.i64 (Go.IntKind.wrap Go.IntKind.i64 (Go.IntKind.wrap Go.IntKind.i64 (Go.IntKind.wrap Go.IntKind.i64 (3 + List.getD xs 3 0) + Go.IntKind.wrap Go.IntKind.i64 (Int.tdiv (Go.IntKind.wrap Go.IntKind.i64 (List.getD xs 2 0 + 3)) 4)) + Go.IntKind.wrap Go.IntKind.i64 (5 * List.getD xs 2 0)) + Go.IntKind.wrap Go.IntKind.i64 (0 + 32)) + List.getD xs 12 0) - 1))) [])))
                  (
                  br (!Decidable.decide (List.getD xs 12 0 ≤ Go.IntKind.wrap Go.IntKind.i64 (Int.tdiv 32 2)))
                    (
                    K (vi (0)) [])
                    (
                    K (vi (Go.IntKind.wrap Go.IntKind.i64 (Go.IntKind.wrap Go.IntKind.i64 (Go.IntKind.wrap Go.IntKind.i64 (Go.IntKind.wrap Go.IntKind.i64 (Go.IntKind.wrap Go.IntKind.i64 (Go.IntKind.wrap Go.IntKind.i64 (3 + List.getD xs 3 0) + Go.IntKind.wrap Go.IntKind.i64 (Int.tdiv (Go.IntKind.wrap Go.IntKind.i64 (List.getD xs 2 0 + 3)) 4)) + Go.IntKind.wrap Go.IntKind.i64 (5 * List.getD xs 2 0)) + Go.IntKind.wrap Go.IntKind.i64 (0 + 32)) + List.getD xs 12 0) - 1))) [])))
                (
                br (!Decidable.decide (List.getD xs 12 0 ≤ 32))
                  (
                  K (vi (0)) [])
                  (
                  K (vi (Go.IntKind.wrap Go.IntKind.i64 (Go.IntKind.wrap Go.IntKind.i64 (Go.IntKind.wrap Go.IntKind.i64 (Go.IntKind.wrap Go.IntKind.i64 (Go.IntKind.wrap Go.IntKind.i64 (Go.IntKind.wrap Go.IntKind.i64 (3 + List.getD xs 3 0) + Go.IntKind.wrap Go.IntKind.i64 (Int.tdiv (Go.IntKind.wrap Go.IntKind.i64 (List.getD xs 2 0 + 3)) 4)) + Go.IntKind.wrap Go.IntKind.i64 (5 * List.getD xs 2 0)) + Go.IntKind.wrap Go.IntKind.i64 (0 + 32)) + List.getD xs 12 0) - 1))) [])))
              (
              K (vi (0)) [])))
          (
          br (Decidable.decide (List.getD xs 12 0 ≥ 1))
            (
            br (Decidable.decide (0 < List.getD xs 11 0))
              (
              br (Decidable.decide (Go.IntKind.wrap Go.IntKind.i64 (0 + 1) < List.getD xs 11 0))
                (
                br (Decidable.decide (Go.IntKind.wrap Go.IntKind.i64 (Go.IntKind.wrap Go.IntKind.i64 (0 + 1) + 1) < List.getD xs 11 0))
                  (
                  br (Decidable.decide (Go.IntKind.wrap Go.IntKind.i64 (Go.IntKind.wrap Go.IntKind.i64 (Go.IntKind.wrap Go.IntKind.i64 (0 + 1) + 1) + 1) < List.getD xs 11 0))
                    (
                    br (Decidable.decide (Go.IntKind.wrap Go.IntKind.i64 (Go.IntKind.wrap Go.IntKind.i64 (Go.IntKind.wrap Go.IntKind.i64 (Go.IntKind.wrap Go.IntKind.i64 (0 + 1) + 1) + 1) + 1) < List.getD xs 11 0))
                      (
                      br (Decidable.decide (Go.IntKind.wrap Go.IntKind.i64 (Go.IntKind.wrap Go.IntKind.i64 (Go.IntKind.wrap Go.IntKind.i64 (Go.IntKind.wrap Go.IntKind.i64 (Go.IntKind.wrap Go.IntKind.i64 (0 + 1) + 1) + 1) + 1) + 1) < List.getD xs 11 0))
                        (
                        br (!Decidable.decide (List.getD xs 12 0 ≤ Go.IntKind.wrap Go.IntKind.i64 (Int.tdiv (Go.IntKind.wrap Go.IntKind.i64 (Int.tdiv (Go.IntKind.wrap Go.IntKind.i64 (Int.tdiv (Go.IntKind.wrap Go.IntKind.i64 (Int.tdiv (Go.IntKind.wrap Go.IntKind.i64 (Int.tdiv 32 2)) 2)) 2)) 2)) 2)))
                          (
                          K (vi (0)) [])
                          (
                          K (vi (Go.IntKind.wrap Go.IntKind.i64 (Go.IntKind.wrap Go.IntKind.i64 (Go.IntKind.wrap Go.IntKind.i64 (Go.IntKind.wrap Go.IntKind.i64 (Go.IntKind.wrap Go.IntKind.i64 (Go.IntKind.wrap Go.IntKind.i64 (3 + List.getD xs 3 0) + Go.IntKind.wrap Go.IntKind.i64 (Int.tdiv (Go.IntKind.wrap Go.IntKind.i64 (List.getD xs 2 0 + 3)) 4)) + Go.IntKind.wrap Go.IntKind.i64 (5 * List.getD xs 2 0)) + 0) + List.getD xs 12 0) - 1))) []))
                        (
                        br (!Decidable.decide (List.getD xs 12 0 ≤ Go.IntKind.wrap Go.IntKind.i64 (Int.tdiv (Go.IntKind.wrap Go.IntKind.i64 (Int.tdiv (Go.IntKind.wrap Go.IntKind.i64 (Int.tdiv (Go.IntKind.wrap Go.IntKind.i64 (Int.tdiv (Go.IntKind.wrap Go.IntKind.i64 (Int.tdiv 32 2)) 2)) 2)) 2)) 2)))
                          (
                          K (vi (0)) [])
                          (
                          K (vi (Go.IntKind.wrap Go.IntKind.i64 (Go.IntKind.wrap Go.IntKind.i64 (Go.IntKind.wrap Go.IntKind.i64 (Go.IntKind.wrap Go.IntKind.i64 (Go.IntKind.wrap Go.IntKind.i64 (Go.IntKind.wrap Go.IntKind.i64 (3 + List.getD xs 3 0) + Go.IntKind.wrap Go.IntKind.i64 (Int.tdiv (Go.IntKind.wrap Go.IntKind.i64 (List.getD xs 2 0 + 3)) 4)) + Go.IntKind.wrap Go.IntKind.i64 (5 * List.getD xs 2 0)) + 0) + List.getD xs 12 0) - 1))) [])))
                      (
                      br (!Decidable.decide (List.getD xs 12 0 ≤ Go.IntKind.wrap Go.IntKind.i64 (Int.tdiv (Go.IntKind.wrap Go.IntKind.i64 (Int.tdiv (Go.IntKind.wrap Go.IntKind.i64 (Int.tdiv (Go.IntKind.wrap Go.IntKind.i64 (Int.tdiv 32 2)) 2)) 2)) 2)))
                        (
                        K (vi (0)) [])
                        (
                        K (vi (Go.IntKind.wrap Go.IntKind.i64 (Go.IntKind.wrap Go.IntKind.i64 (Go.IntKind.wrap Go.IntKind.i64 (Go.IntKind.wrap Go.IntKind.i64 (Go.IntKind.wrap Go.IntKind.i64 (Go.IntKind.wrap Go.IntKind.i64 (3 + List.getD xs 3 0) + Go.IntKind.wrap Go.IntKind.i64 (Int.tdiv (Go.IntKind.wrap Go.IntKind.i64 (List.getD xs 2 0 + 3)) 4)) + Go.IntKind.wrap Go.IntKind.i64 (5 * List.getD xs 2 0)) + 0) + List.getD xs 12 0) - 1))) [])))
                    (
                    br (!Decidable.decide (List.getD xs 12 0 ≤ Go.IntKind.wrap Go.IntKind.i64 (Int.tdiv (Go.IntKind.wrap Go.IntKind.i64 (Int.tdiv (Go.IntKind.wrap Go.IntKind.i64 (Int.tdiv 32 2)) 2)) 2)))
                      (
                      K (vi (0)) [])
                      (
                      K (vi (Go.IntKind.wrap Go.IntKind.i64 (Go.IntKind.wrap Go.IntKind.i64 (Go.IntKind.wrap Go.IntKind.i64 (Go.IntKind.wrap Go.IntKind.i64 (Go.IntKind.wrap Go.IntKind.i64 (Go.IntKind.wrap Go.IntKind.i64 (3 + List.getD xs 3 0) + Go.IntKind.wrap Go.IntKind.i64 (Int.tdiv (Go.IntKind.wrap Go.IntKind.i64 (List.getD xs 2 0 + 3)) 4)) + Go.IntKind.wrap Go.IntKind.i64 (5 * List.getD xs 2 0)) + 0) + List.getD xs 12 0) - 1))) [])))
                  (
                  br (!Decidable.decide (List.getD xs 12 0 ≤ Go.IntKind.wrap Go.IntKind.i64 (Int.tdiv (Go.IntKind.wrap Go.IntKind.i64 (Int.tdiv 32 2)) 2)))
                    (
                    K (vi (0)) [])
                    (
                    K (vi (Go.IntKind.wrap Go.IntKind.i64 (Go.IntKind.wrap Go.IntKind.i64 (Go.IntKind.wrap Go.IntKind.i64 (Go.IntKind.wrap Go.IntKind.i64 (Go.IntKind.wrap Go.IntKind.i64 (Go.IntKind.wrap Go.IntKind.i64 (3 + List.getD xs 3 0) + Go.IntKind.wrap Go.IntKind.i64 (Int.tdiv (Go.IntKind.wrap Go.IntKind.i64 (List.getD xs 2 0 + 3)) 4)) + Go.IntKind.wrap Go.IntKind.i64 (5 * List.getD xs 2 0)) + 0) + List.getD xs 12 0) - 1))) [])))
                (
                br (!Decidable.decide (List.getD xs 12 0 ≤ Go.IntKind.wrap Go.IntKind.i64 (Int.tdiv 32 2)))
                  (
                  K (vi (0)) [])
                  (
                  K (vi (Go.IntKind.wrap Go.IntKind.i64 (Go.IntKind.wrap Go.IntKind.i64 (Go.IntKind.wrap Go.IntKind.i64 (Go.IntKind.wrap Go.IntKind.i64 (Go.IntKind.wrap Go.IntKind.i64 (Go.IntKind.wrap Go.IntKind.i64 (3 + List.getD xs 3 0) + Go.IntKind.wrap Go.IntKind.i64 (Int.tdiv (Go.IntKind.wrap Go.IntKind.i64 (List.getD xs 2 0 + 3)) 4)) + Go.IntKind.wrap Go.IntKind.i64 (5 * List.getD xs 2 0)) + 0) + List.getD xs 12 0) - 1))) [])))
              (
              br (!Decidable.decide (List.getD xs 12 0 ≤ 32))
                (
                K (vi (0)) [])
                (
                K (vi (Go.IntKind.wrap Go.IntKind.i64 (Go.IntKind.wrap Go.IntKind.i64 (Go.IntKind.wrap Go.IntKind.i64 (Go.IntKind.wrap Go.IntKind.i64 (Go.IntKind.wrap Go.IntKind.i64 (Go.IntKind.wrap Go.IntKind.i64 (3 + List.getD xs 3 0) + Go.IntKind.wrap Go.IntKind.i64 (Int.tdiv (Go.IntKind.wrap Go.IntKind.i64 (List.getD xs 2 0 + 3)) 4)) + Go.IntKind.wrap Go.IntKind.i64 (5 * List.getD xs 2 0)) + 0) + List.getD xs 12 0) - 1))) [])))
            (
            K (vi (0)) []))))) := by
  kernel_rfl

end Go.Rx
