/- Normal forms of the program's code (by a program of this session's; the kernel checks each). -/
import Derived.Test.YtpgapdmmcanffaaC29a
namespace Go.Rx
open Go.Proofs
set_option maxRecDepth 100000
theorem nf89 (xs : List Int) (K : V → Heap → Prop) : (exF (cfgA 89 sigA1 (un2 10)) Try.f89 (mkA [0] 0 xs) [] K) = (
    br (1 == List.getD xs 0 0)
      (
      K (vb (Bool.true)) [])
      (
      br (2 == List.getD xs 0 0)
        (
        K (vb (Bool.true)) [])
        (
        br (4 == List.getD xs 0 0)
          (
          K (vb (Bool.true)) [])
          (
          br (8 == List.getD xs 0 0)
            (
            K (vb (Bool.true)) [])
            (
            br (16 == List.getD xs 0 0)
              (
              K (vb (Bool.true)) [])
              (
              br (32 == List.getD xs 0 0)
                (
                K (vb (Bool.true)) [])
                (
                br (64 == List.getD xs 0 0)
                  (
                  K (vb (Bool.true)) [])
                  (
                  br (128 == List.getD xs 0 0)
                    (
                    K (vb (Bool.true)) [])
                    (
                    K (vb (Bool.false)) []))))))))) := by
  kernel_rfl

theorem nf90 (xs : List Int) (K : V → Heap → Prop) : (exF (cfgA 90 sigA1 (un2 7)) Try.f90 (mkA [0] 0 xs) [] K) = (
    br (Decidable.decide (1 ≥ List.getD xs 0 0))
      (
      K (vi (0)) [])
      (
      br (Decidable.decide (2 ≥ List.getD xs 0 0))
        (
        K (vi (Go.IntKind.wrap Go.IntKind.i64 (0 + 1))) [])
        (
        br (Decidable.decide (4 ≥ List.getD xs 0 0))
          (
          K (vi (Go.IntKind.wrap Go.IntKind.i64 (Go.IntKind.wrap Go.IntKind.i64 (0 + 1) + 1))) [])
          (
          br (Decidable.decide (8 ≥ List.getD xs 0 0))
            (
            K (vi (Go.IntKind.wrap Go.IntKind.i64 (Go.IntKind.wrap Go.IntKind.i64 (Go.IntKind.wrap Go.IntKind.i64 (0 + 1) + 1) + 1))) [])
            (
            br (Decidable.decide (16 ≥ List.getD xs 0 0))
              (
              K (vi (Go.IntKind.wrap Go.IntKind.i64 (Go.IntKind.wrap Go.IntKind.i64 (Go.IntKind.wrap Go.IntKind.i64 (Go.IntKind.wrap Go.IntKind.i64 (0 + 1) + 1) + 1) + 1))) [])
              (
              K (vi (-1)) [])))))) := by
  kernel_rfl

theorem nf91 (xs : List Int) (K : V → Heap → Prop) : (exF (cfgA 91 sigA1 (un2 10)) Try.f91 (mkA [0] 0 xs) [] K) = (
    br (1 == List.getD xs 0 0)
      (
      K (vb (Bool.true)) [])
      (
      br (Go.IntKind.wrap Go.IntKind.i64 (1 * 2) == List.getD xs 0 0)
        (
        K (vb (Bool.true)) [])
        (
        br (Go.IntKind.wrap Go.IntKind.i64 (Go.IntKind.wrap Go.IntKind.i64 (1 * 2) * 2) == List.getD xs 0 0)
          (
          K (vb (Bool.true)) [])
          (
          br (Go.IntKind.wrap Go.IntKind.i64 (Go.IntKind.wrap Go.IntKind.i64 (Go.IntKind.wrap Go.IntKind.i64 (1 * 2) * 2) * 2) == List.getD xs 0 0)
            (
            K (vb (Bool.true)) [])
            (
            br (Go.IntKind.wrap Go.IntKind.i64 (Go.IntKind.wrap Go.IntKind.i64 (Go.IntKind.wrap Go.IntKind.i64 (Go.IntKind.wrap Go.IntKind.i64 (1 * 2) * 2) * 2) * 2) == List.getD xs 0 0)
              (
              K (vb (Bool.true)) [])
              (
              br (Go.IntKind.wrap Go.IntKind.i64 (Go.IntKind.wrap Go.IntKind.i64 (Go.IntKind.wrap Go.IntKind.i64 (Go.IntKind.wrap Go.IntKind.i64 (Go.IntKind.wrap Go.IntKind.i64 (1 * 2) * 2) * 2) * 2) * 2) == List.getD xs 0 0)
                (
                K (vb (Bool.true)) [])
                (
                br (Go.IntKind.wrap Go.IntKind.i64 (Go.IntKind.wrap Go.IntKind.i64 (Go.IntKind.wrap Go.IntKind.i64 (Go.IntKind.wrap Go.IntKind.i64 (Go.IntKind.wrap Go.IntKind.i64 (Go.IntKind.wrap Go.IntKind.i64 (1 * 2) * 2) * 2) * 2) * 2) * 2) == List.getD xs 0 0)
                  (
                  K (vb (Bool.true)) [])
                  (
                  br (Go.IntKind.wrap Go.IntKind.i64 (Go.IntKind.wrap Go.IntKind.i64 (Go.IntKind.wrap Go.IntKind.i64 (Go.IntKind.wrap Go.IntKind.i64 (Go.IntKind.wrap Go.IntKind.i64 (Go.IntKind.wrap Go.IntKind.i64 (Go.IntKind.wrap Go.IntKind.i64 (1 * 2) * 2) * 2) * 2) * 2) * 2) * 2) == List.getD xs 0 0)
                    (
                    K (vb (Bool.true)) [])
                    (
                    K (vb (Bool.false)) []))))))))) := by
  kernel_rfl

theorem nf92 (xs : List Int) (K : V → Heap → Prop) : (exF (cfgA 92 sigA1 (un2 7)) Try.f92 (mkA [0] 0 xs) [] K) = (
    br (Decidable.decide (1 ≥ List.getD xs 0 0))
      (
      K (vi (0)) [])
      (
      br (Decidable.decide (Go.IntKind.wrap Go.IntKind.i64 (1 * 2) ≥ List.getD xs 0 0))
        (
        K (vi (Go.IntKind.wrap Go.IntKind.i64 (0 + 1))) [])
        (
        br (Decidable.decide (Go.IntKind.wrap Go.IntKind.i64 (Go.IntKind.wrap Go.IntKind.i64 (1 * 2) * 2) ≥ List.getD xs 0 0))
          (
          K (vi (Go.IntKind.wrap Go.IntKind.i64 (Go.IntKind.wrap Go.IntKind.i64 (0 + 1) + 1))) [])
          (
          br (Decidable.decide (Go.IntKind.wrap Go.IntKind.i64 (Go.IntKind.wrap Go.IntKind.i64 (Go.IntKind.wrap Go.IntKind.i64 (1 * 2) * 2) * 2) ≥ List.getD xs 0 0))
            (
            K (vi (Go.IntKind.wrap Go.IntKind.i64 (Go.IntKind.wrap Go.IntKind.i64 (Go.IntKind.wrap Go.IntKind.i64 (0 + 1) + 1) + 1))) [])
            (
            br (Decidable.decide (Go.IntKind.wrap Go.IntKind.i64 (Go.IntKind.wrap Go.IntKind.i64 (Go.IntKind.wrap Go.IntKind.i64 (Go.IntKind.wrap Go.IntKind.i64 (1 * 2) * 2) * 2) * 2) ≥ List.getD xs 0 0))
              (
              K (vi (Go.IntKind.wrap Go.IntKind.i64 (Go.IntKind.wrap Go.IntKind.i64 (Go.IntKind.wrap Go.IntKind.i64 (Go.IntKind.wrap Go.IntKind.i64 (0 + 1) + 1) + 1) + 1))) [])
              (
              K (vi (-1)) [])))))) := by
  kernel_rfl

theorem nf60 (xs : List Int) (K : V → Heap → Prop) : (exF (cfgA 60 sigA1 noU9) Try.f60 (mkA [0] 0 xs) [] K) = (
    br (Decidable.decide (List.getD xs 0 0 < 1))
      (
      K (vi (0)) [])
      (
      K (vi (Go.IntKind.wrap Go.IntKind.i64 (Go.IntKind.wrap Go.IntKind.i64 (Int.tdiv (Go.IntKind.wrap Go.IntKind.i64 (List.getD xs 0 0 - 1)) 32) + 1))) [])) := by
  kernel_rfl

theorem nf93 (xs : List Int) (K : V → Heap → Prop) : (exF (cfgA 93 sigA1 noU9) Try.f93 (mkA [0] 0 xs) [] K) = (
    br (Decidable.decide (List.getD xs 0 0 < 1))
      (
      K (vi (0)) [])
      (
      K (vi (Go.IntKind.wrap Go.IntKind.i64 (Go.IntKind.wrap Go.IntKind.i64 (Int.tdiv (Go.IntKind.wrap Go.IntKind.i64 (List.getD xs 0 0 - 1)) 32) + 1))) [])) := by
  kernel_rfl

theorem nf52 (xs : List Int) (K : V → Heap → Prop) : (exF (cfgA 52 sigA1 noU9) Try.f52 (mkA [7] 0 xs) [] K) = (
    br (Decidable.decide ((if List.getD xs (6 : Nat) (0 : Int) < if List.getD xs (5 : Nat) (0 : Int) < if List.getD xs (4 : Nat) (0 : Int) < if List.getD xs (3 : Nat) (0 : Int) < if List.getD xs (2 : Nat) (0 : Int) < if List.getD xs (1 : Nat) (0 : Int) < List.getD xs (0 : Nat) (0 : Int) then List.getD xs (1 : Nat) (0 : Int) else List.getD xs (0 : Nat) (0 : Int) then List.getD xs (2 : Nat) (0 : Int) else if List.getD xs (1 : Nat) (0 : Int) < List.getD xs (0 : Nat) (0 : Int) then List.getD xs (1 : Nat) (0 : Int) else List.getD xs (0 : Nat) (0 : Int) then List.getD xs (3 : Nat) (0 : Int) else if List.getD xs (2 : Nat) (0 : Int) < if List.getD xs (1 : Nat) (0 : Int) < List.getD xs (0 : Nat) (0 : Int) then List.getD xs (1 : Nat) (0 : Int) else List.getD xs (0 : Nat) (0 : Int) then List.getD xs (2 : Nat) (0 : Int) else if List.getD xs (1 : Nat) (0 : Int) < List.getD xs (0 : Nat) (0 : Int) then List.getD xs (1 : Nat) (0 : Int) else List.getD xs (0 : Nat) (0 : Int) then List.getD xs (4 : Nat) (0 : Int) else if List.getD xs (3 : Nat) (0 : Int) < if List.getD xs (2 : Nat) (0 : Int) < if List.getD xs (1 : Nat) (0 : Int) < List.getD xs (0 : Nat) (0 : Int) then List.getD xs (1 : Nat) (0 : Int) else List.getD xs (0 : Nat) (0 : Int) then List.getD xs (2 : Nat) (0 : Int) else if List.getD xs (1 : Nat) (0 : Int) < List.getD xs (0 : Nat) (0 : Int) then List.getD xs (1 : Nat) (0 : Int) else List.getD xs (0 : Nat) (0 : Int) then List.getD xs (3 : Nat) (0 : Int) else if List.getD xs (2 : Nat) (0 : Int) < if List.getD xs (1 : Nat) (0 : Int) < List.getD xs (0 : Nat) (0 : Int) then List.getD xs (1 : Nat) (0 : Int) else List.getD xs (0 : Nat) (0 : Int) then List.getD xs (2 : Nat) (0 : Int) else if List.getD xs (1 : Nat) (0 : Int) < List.getD xs (0 : Nat) (0 : Int) then List.getD xs (1 : Nat) (0 : Int) else List.getD xs (0 : Nat) (0 : Int) then List.getD xs (5 : Nat) (0 : Int) else if List.getD xs (4 : Nat) (0 : Int) < if List.getD xs (3 : Nat) (0 : Int) < if List.getD xs (2 : Nat) (0 : Int) < if List.getD xs (1 : Nat) (0 : Int) < List.getD xs (0 : Nat) (0 : Int) then List.getD xs (1 : Nat) (0 : Int) else List.getD xs (0 : Nat) (0 : Int) then List.getD xs (2 : Nat) (0 : Int) else if List.getD xs (1 : Nat) (0 : Int) < List.getD xs (0 : Nat) (0 : Int) then List.getD xs (1 : Nat) (0 : Int) else List.getD xs (0 : Nat) (0 : Int) then List.getD xs (3 : Nat) (0 : Int) else if List.getD xs (2 : Nat) (0 : Int) < if List.getD xs (1 : Nat) (0 : Int) < List.getD xs (0 : Nat) (0 : Int) then List.getD xs (1 : Nat) (0 : Int) else List.getD xs (0 : Nat) (0 : Int) then List.getD xs (2 : Nat) (0 : Int) else if List.getD xs (1 : Nat) (0 : Int) < List.getD xs (0 : Nat) (0 : Int) then List.getD xs (1 : Nat) (0 : Int) else List.getD xs (0 : Nat) (0 : Int) then List.getD xs (4 : Nat) (0 : Int) else if List.getD xs (3 : Nat) (0 : Int) < if List.getD xs (2 : Nat) (0 : Int) < if List.getD xs (1 : Nat) (0 : Int) < List.getD xs (0 : Nat) (0 : Int) then List.getD xs (1 : Nat) (0 : Int) else List.getD xs (0 : Nat) (0 : Int) then List.getD xs (2 : Nat) (0 : Int) else if List.getD xs (1 : Nat) (0 : Int) < List.getD xs (0 : Nat) (0 : Int) then List.getD xs (1 : Nat) (0 : Int) else List.getD xs (0 : Nat) (0 : Int) then List.getD xs (3 : Nat) (0 : Int) else if List.getD xs (2 : Nat) (0 : Int) < if List.getD xs (1 : Nat) (0 : Int) < List.getD xs (0 : Nat) (0 : Int) then List.getD xs (1 : Nat) (0 : Int) else List.getD xs (0 : Nat) (0 : Int) then List.getD xs (2 : Nat) (0 : Int) else if List.getD xs (1 : Nat) (0 : Int) < List.getD xs (0 : Nat) (0 : Int) then List.getD xs (1 : Nat) (0 : Int) else List.getD xs (0 : Nat) (0 : Int) then List.getD xs (6 : Nat) (0 : Int) else if List.getD xs (5 : Nat) (0 : Int) < if List.getD xs (4 : Nat) (0 : Int) < if List.getD xs (3 : Nat) (0 : Int) < if List.getD xs (2 : Nat) (0 : Int) < if List.getD xs (1 : Nat) (0 : Int) < List.getD xs (0 : Nat) (0 : Int) then List.getD xs (1 : Nat) (0 : Int) else List.getD xs (0 : Nat) (0 : Int) then List.getD xs (2 : Nat) (0 : Int) else if List.getD xs (1 : Nat) (0 : Int) < List.getD xs (0 : Nat) (0 : Int) then List.getD xs (1 : Nat) (0 : Int) else List.getD xs (0 : Nat) (0 : Int) then List.getD xs (3 : Nat) (0 : Int) else if List.getD xs (2 : Nat) (0 : Int) < if List.getD xs (1 : Nat) (0 : Int) < List.getD xs (0 : Nat) (0 : Int) then List.getD xs (1 : Nat) (0 : Int) else List.getD xs (0 : Nat) (0 : Int) then List.getD xs (2 : Nat) (0 : Int) else if List.getD xs (1 : Nat) (0 : Int) < List.getD xs (0 : Nat) (0 : Int) then List.getD xs (1 : Nat) (0 : Int) else List.getD xs (0 : Nat) (0 : Int) then List.getD xs (4 : Nat) (0 : Int) else if List.getD xs (3 : Nat) (0 : Int) < if List.getD xs (2 : Nat) (0 : Int) < if List.getD xs (1 : Nat) (0 : Int) < List.getD xs (0 : Nat) (0 : Int) then List.getD xs (1 : Nat) (0 : Int) else List.getD xs (0 : Nat) (0 : Int) then List.getD xs (2 : Nat) (0 : Int) else if List.getD xs (1 : Nat) (0 : Int) < List.getD xs (0 : Nat) (0 : Int) then List.getD xs (1 : Nat) (0 : Int) else List.getD xs (0 : Nat) (0 : Int) then List.getD xs (3 : Nat) (0 : Int) else if List.getD xs (2 : Nat) (0 : Int) < if List.getD xs (1 : Nat) (0 : Int) < List.getD xs (0 : Nat) (0 : Int) then List.getD xs (1 : Nat) (0 : Int) else List.getD xs (0 : Nat) (0 : Int) then List.getD xs (2 : Nat) (0 : Int) else if List.getD xs (1 : Nat) (0 : Int) < List.getD xs (0 : Nat) (0 : Int) then List.getD xs (1 : Nat) (0 : Int) else List.getD xs (0 : Nat) (0 : Int) then List.getD xs (5 : Nat) (0 : Int) else if List.getD xs (4 : Nat) (0 : Int) < if List.getD xs (3 : Nat) (0 : Int) < if List.getD xs (2 : Nat) (0 : Int) < if List.getD xs (1 : Nat) (0 : Int) < List.getD xs (0 : Nat) (0 : Int) then List.getD xs (1 : Nat) (0 : Int) else List.getD xs (0 : Nat) (0 : Int) then List.getD xs (2 : Nat) (0 : Int) else if List.getD xs (1 : Nat) (0 : Int) < List.getD xs (0 : Nat) (0 : Int) then List.getD xs (1 : Nat) (0 : Int) else List.getD xs (0 : Nat) (0 : Int) then List.getD xs (3 : Nat) (0 : Int) else if List.getD xs (2 : Nat) (0 : Int) < if List.getD xs (1 : Nat) (0 : Int) < List.getD xs (0 : Nat) (0 : Int) then List.getD xs (1 : Nat) (0 : Int) else List.getD xs (0 : Nat) (0 : Int) then List.getD xs (2 : Nat) (0 : Int) else if List.getD xs (1 : Nat) (0 : Int) < List.getD xs (0 : Nat) (0 : Int) then List.getD xs (1 : Nat) (0 : Int) else List.getD xs (0 : Nat) (0 : Int) then List.getD xs (4 : Nat) (0 : Int) else if List.getD xs (3 : Nat) (0 : Int) < if List.getD xs (2 : Nat) (0 : Int) < if List.getD xs (1 : Nat) (0 : Int) < List.getD xs (0 : Nat) (0 : Int) then List.getD xs (1 : Nat) (0 : Int) else List.getD xs (0 : Nat) (0 : Int) then List.getD xs (2 : Nat) (0 : Int) else if List.getD xs (1 : Nat) (0 : Int) < List.getD xs (0 : Nat) (0 : Int) then List.getD xs (1 : Nat) (0 : Int) else List.getD xs (0 : Nat) (0 : Int) then List.getD xs (3 : Nat) (0 : Int) else if List.getD xs (2 : Nat) (0 : Int) < if List.getD xs (1 : Nat) (0 : Int) < List.getD xs (0 : Nat) (0 : Int) then List.getD xs (1 : Nat) (0 : Int) else List.getD xs (0 : Nat) (0 : Int) then List.getD xs (2 : Nat) (0 : Int) else if List.getD xs (1 : Nat) (0 : Int) < List.getD xs (0 : Nat) (0 : Int) then List.getD xs (1 : Nat) (0 : Int) else List.getD xs (0 : Nat) (0 : Int)) < (0 : Int)))
      (
      K (vb (Bool.false)) [])
      (
      br (Decidable.decide (List.getD xs 1 0 > List.getD xs 2 0))
        (
        K (vb (Bool.false)) [])
        (
        br (Decidable.decide (List.getD xs 0 0 > List.getD xs 2 0))
          (
          K (vb (Bool.false)) [])
          (
          br (Decidable.decide (List.getD xs 6 0 > List.getD xs 5 0))
            (
            K (vb (Bool.false)) [])
            (
            br (Decidable.decide (List.getD xs 6 0 > 1099511627776))
              (
              K (vb (Bool.false)) [])
              (
              br (Decidable.decide (List.getD xs 2 0 > 35184372088832))
                (
                K (vb (Bool.false)) [])
                (
                br (Decidable.decide (List.getD xs 3 0 > 35184372088832))
                  (
                  K (vb (Bool.false)) [])
                  (
                  K (vb (List.getD xs 4 0 == Go.IntKind.wrap Go.IntKind.i64 (Go.IntKind.wrap Go.IntKind.i64 (Go.IntKind.wrap Go.IntKind.i64 (32 * List.getD xs 6 0) - List.getD xs 2 0) - List.getD xs 3 0))) [])))))))) := by
  kernel_rfl

theorem nf59 (xs : List Int) (K : V → Heap → Prop) : (exF (cfgA 59 sigA1 noU9) Try.f59 (mkA [7] 0 xs) [] K) = (
    K (vi (Go.IntKind.wrap Go.IntKind.i64 (Go.IntKind.wrap Go.IntKind.i64 (List.getD xs 2 0 + List.getD xs 3 0) + List.getD xs 4 0))) []) := by
  kernel_rfl

theorem nf58 (xs : List Int) (K : V → Heap → Prop) : (exF (cfgA 58 sigA1 noU9) Try.f58 (mkA [23, 7] 0 xs) [] K) = (
    K (vi (Go.IntKind.wrap Go.IntKind.i64 (Go.IntKind.wrap Go.IntKind.i64 (List.getD xs 25 0 + List.getD xs 26 0) + List.getD xs 27 0))) []) := by
  kernel_rfl

theorem nf55 (xs : List Int) (K : V → Heap → Prop) : (exF (cfgA 55 sigA1 noU9) Try.f55 (mkA [11, 7] 0 xs) [] K) = (
    K (vi (if Go.IntKind.wrap Go.IntKind.i64 (List.getD xs (2 : Nat) (0 : Int) - List.getD xs (17 : Nat) (0 : Int)) > (0 : Int) then Go.IntKind.wrap Go.IntKind.i64 (List.getD xs (2 : Nat) (0 : Int) - List.getD xs (17 : Nat) (0 : Int)) else (0 : Int))) []) := by
  kernel_rfl

end Go.Rx
