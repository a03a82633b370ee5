/- Normal forms of the program's code (by a program of this session's; the kernel checks each). -/
import Derived.Test.YtpgapdmmcanffaaC29b
namespace Go.Rx
open Go.Proofs
set_option maxRecDepth 100000
theorem nf81 (xs : List Int) (K : V → Heap → Prop) : (exF (cfgA 81 sig29b noU9) Try.f81 (mkA [0, 0] 0 xs) [] K) = (
    br (Decidable.decide (List.getD xs 0 0 < 0))
      (
      K (.tup [vi (0), vi (0), vi (0), vi (2)]) [])
      (
      ((
        True) ∧ (
        br (!Go.Rx.v89_0 [List.getD xs 1 0])
          (
          K (.tup [vi (0), vi (0), vi (0), vi (2)]) [])
          (
          br (Decidable.decide ((if List.getD xs (1 : Nat) (0 : Int) > List.getD xs (0 : Nat) (0 : Int) then List.getD xs (1 : Nat) (0 : Int) else List.getD xs (0 : Nat) (0 : Int)) ≤ (16 : Int)))
            (
            ((
              True) ∧ (
              K (.tup [vi (Go.Rx.v90_0 [if List.getD xs (1 : Nat) (0 : Int) > List.getD xs (0 : Nat) (0 : Int) then List.getD xs (1 : Nat) (0 : Int) else List.getD xs (0 : Nat) (0 : Int)]), vi (0), vi (0), vi (0)]) [])))
            (
            ((
              True) ∧ (
              K (.tup [vi (-1), vi (Go.Rx.v60_0 [if (1 : Int) > List.getD xs (0 : Nat) (0 : Int) then (1 : Int) else List.getD xs (0 : Nat) (0 : Int)]), vi (if Go.IntKind.wrap Go.IntKind.i64 (Int.tdiv (List.getD xs (1 : Nat) (0 : Int)) (32 : Int)) > (1 : Int) then Go.IntKind.wrap Go.IntKind.i64 (Int.tdiv (List.getD xs (1 : Nat) (0 : Int)) (32 : Int)) else (1 : Int)), vi (0)]) [])))))))) := by
  kernel_rfl

theorem nf82 (xs : List Int) (K : V → Heap → Prop) : (exF (cfgA 82 sig29b noU9) Try.f82 (mkA [0, 0] 0 xs) [] K) = (
    br (Decidable.decide (List.getD xs 0 0 < 0))
      (
      K (.tup [vi (0), vi (0), vi (0), vi (2)]) [])
      (
      ((
        True) ∧ (
        br (!Go.Rx.v91_0 [List.getD xs 1 0])
          (
          K (.tup [vi (0), vi (0), vi (0), vi (2)]) [])
          (
          br (Decidable.decide (List.getD xs 0 0 ≤ 16))
            (
            br (Decidable.decide (List.getD xs 1 0 ≤ 16))
              (
              ((
                True) ∧ (
                ((
                  True) ∧ (
                  K (.tup [vi (if Go.Rx.v92_0 [List.getD xs (1 : Nat) (0 : Int)] > Go.Rx.v92_0 [List.getD xs (0 : Nat) (0 : Int)] then Go.Rx.v92_0 [List.getD xs (1 : Nat) (0 : Int)] else Go.Rx.v92_0 [List.getD xs (0 : Nat) (0 : Int)]), vi (0), vi (0), vi (0)]) [])))))
              (
              ((
                True) ∧ (
                K (.tup [vi (-1), vi (Go.Rx.v93_0 [if (1 : Int) > List.getD xs (0 : Nat) (0 : Int) then (1 : Int) else List.getD xs (0 : Nat) (0 : Int)]), vi (if Go.IntKind.wrap Go.IntKind.i64 (Int.tdiv (List.getD xs (1 : Nat) (0 : Int)) (32 : Int)) > (1 : Int) then Go.IntKind.wrap Go.IntKind.i64 (Int.tdiv (List.getD xs (1 : Nat) (0 : Int)) (32 : Int)) else (1 : Int)), vi (0)]) []))))
            (
            ((
              True) ∧ (
              K (.tup [vi (-1), vi (Go.Rx.v93_0 [if (1 : Int) > List.getD xs (0 : Nat) (0 : Int) then (1 : Int) else List.getD xs (0 : Nat) (0 : Int)]), vi (if Go.IntKind.wrap Go.IntKind.i64 (Int.tdiv (List.getD xs (1 : Nat) (0 : Int)) (32 : Int)) > (1 : Int) then Go.IntKind.wrap Go.IntKind.i64 (Int.tdiv (List.getD xs (1 : Nat) (0 : Int)) (32 : Int)) else (1 : Int)), vi (0)]) [])))))))) := by
  kernel_rfl

theorem nf54 (xs : List Int) (K : V → Heap → Prop) : (exF (cfgA 54 sig29b noU9) Try.f54 (mkA [23, 7] 0 xs) [] K) = (
    ((
      True) ∧ (
      K (vi (if Go.IntKind.wrap Go.IntKind.i64 (Go.Rx.v14_2 [List.getD xs (0 : Nat) (0 : Int), List.getD xs (1 : Nat) (0 : Int), List.getD xs (2 : Nat) (0 : Int), List.getD xs (3 : Nat) (0 : Int), List.getD xs (4 : Nat) (0 : Int), List.getD xs (5 : Nat) (0 : Int), List.getD xs (6 : Nat) (0 : Int), List.getD xs (7 : Nat) (0 : Int), List.getD xs (8 : Nat) (0 : Int), List.getD xs (9 : Nat) (0 : Int), List.getD xs (10 : Nat) (0 : Int), List.getD xs (11 : Nat) (0 : Int), List.getD xs (12 : Nat) (0 : Int), List.getD xs (13 : Nat) (0 : Int), List.getD xs (14 : Nat) (0 : Int), List.getD xs (15 : Nat) (0 : Int), List.getD xs (16 : Nat) (0 : Int), List.getD xs (17 : Nat) (0 : Int), List.getD xs (18 : Nat) (0 : Int), List.getD xs (19 : Nat) (0 : Int), List.getD xs (20 : Nat) (0 : Int), List.getD xs (21 : Nat) (0 : Int), List.getD xs (22 : Nat) (0 : Int)] - List.getD xs (29 : Nat) (0 : Int)) > (0 : Int) then Go.IntKind.wrap Go.IntKind.i64 (Go.Rx.v14_2 [List.getD xs (0 : Nat) (0 : Int), List.getD xs (1 : Nat) (0 : Int), List.getD xs (2 : Nat) (0 : Int), List.getD xs (3 : Nat) (0 : Int), List.getD xs (4 : Nat) (0 : Int), List.getD xs (5 : Nat) (0 : Int), List.getD xs (6 : Nat) (0 : Int), List.getD xs (7 : Nat) (0 : Int), List.getD xs (8 : Nat) (0 : Int), List.getD xs (9 : Nat) (0 : Int), List.getD xs (10 : Nat) (0 : Int), List.getD xs (11 : Nat) (0 : Int), List.getD xs (12 : Nat) (0 : Int), List.getD xs (13 : Nat) (0 : Int), List.getD xs (14 : Nat) (0 : Int), List.getD xs (15 : Nat) (0 : Int), List.getD xs (16 : Nat) (0 : Int), List.getD xs (17 : Nat) (0 : Int), List.getD xs (18 : Nat) (0 : Int), List.getD xs (19 : Nat) (0 : Int), List.getD xs (20 : Nat) (0 : Int), List.getD xs (21 : Nat) (0 : Int), List.getD xs (22 : Nat) (0 : Int)] - List.getD xs (29 : Nat) (0 : Int)) else (0 : Int))) []))) := by
  kernel_rfl

end Go.Rx
