/- What the functions of classes tell, off their normal forms (by a program of this session's); their contracts. -/
import Derived.Test.YtpgapdmmcanffaaN29a
namespace Go.Rx
open Go.Proofs

def v89_0 (xs : List Int) : Bool := (bif (1 == List.getD xs 0 0) then (Bool.true) else (bif (2 == List.getD xs 0 0) then (Bool.true) else (bif (4 == List.getD xs 0 0) then (Bool.true) else (bif (8 == List.getD xs 0 0) then (Bool.true) else (bif (16 == List.getD xs 0 0) then (Bool.true) else (bif (32 == List.getD xs 0 0) then (Bool.true) else (bif (64 == List.getD xs 0 0) then (Bool.true) else (bif (128 == List.getD xs 0 0) then (Bool.true) else (Bool.false)))))))))

def p89 (xs : List Int) : Prop := True

def s89 : Spec := fS [0] p89 (fun xs => vb (v89_0 xs))

def q89 : Spec where
  tr := fun args H K => match H, shA [0] args with
    | [], some xs => p89 xs ∧ ∀ (x0 : Bool), x0 = v89_0 xs → K (vb x0) []
    | _, _ => False

def v90_0 (xs : List Int) : Int := (bif (Decidable.decide (1 ≥ List.getD xs 0 0)) then (0) else (bif (Decidable.decide (2 ≥ List.getD xs 0 0)) then (Go.IntKind.wrap Go.IntKind.i64 (0 + 1)) else (bif (Decidable.decide (4 ≥ List.getD xs 0 0)) then (Go.IntKind.wrap Go.IntKind.i64 (Go.IntKind.wrap Go.IntKind.i64 (0 + 1) + 1)) else (bif (Decidable.decide (8 ≥ List.getD xs 0 0)) then (Go.IntKind.wrap Go.IntKind.i64 (Go.IntKind.wrap Go.IntKind.i64 (Go.IntKind.wrap Go.IntKind.i64 (0 + 1) + 1) + 1)) else (bif (Decidable.decide (16 ≥ List.getD xs 0 0)) then (Go.IntKind.wrap Go.IntKind.i64 (Go.IntKind.wrap Go.IntKind.i64 (Go.IntKind.wrap Go.IntKind.i64 (Go.IntKind.wrap Go.IntKind.i64 (0 + 1) + 1) + 1) + 1)) else (-1))))))

def p90 (xs : List Int) : Prop := True

def s90 : Spec := fS [0] p90 (fun xs => vi (v90_0 xs))

def q90 : Spec where
  tr := fun args H K => match H, shA [0] args with
    | [], some xs => p90 xs ∧ ∀ (x0 : Int), x0 = v90_0 xs → K (vi x0) []
    | _, _ => False

def v91_0 (xs : List Int) : Bool := (bif (1 == List.getD xs 0 0) then (Bool.true) else (bif (Go.IntKind.wrap Go.IntKind.i64 (1 * 2) == List.getD xs 0 0) then (Bool.true) else (bif (Go.IntKind.wrap Go.IntKind.i64 (Go.IntKind.wrap Go.IntKind.i64 (1 * 2) * 2) == List.getD xs 0 0) then (Bool.true) else (bif (Go.IntKind.wrap Go.IntKind.i64 (Go.IntKind.wrap Go.IntKind.i64 (Go.IntKind.wrap Go.IntKind.i64 (1 * 2) * 2) * 2) == List.getD xs 0 0) then (Bool.true) else (bif (Go.IntKind.wrap Go.IntKind.i64 (Go.IntKind.wrap Go.IntKind.i64 (Go.IntKind.wrap Go.IntKind.i64 (Go.IntKind.wrap Go.IntKind.i64 (1 * 2) * 2) * 2) * 2) == List.getD xs 0 0) then (Bool.true) else (bif (Go.IntKind.wrap Go.IntKind.i64 (Go.IntKind.wrap Go.IntKind.i64 (Go.IntKind.wrap Go.IntKind.i64 (Go.IntKind.wrap Go.IntKind.i64 (Go.IntKind.wrap Go.IntKind.i64 (1 * 2) * 2) * 2) * 2) * 2) == List.getD xs 0 0) then (Bool.true) else (bif (Go.IntKind.wrap Go.IntKind.i64 (Go.IntKind.wrap Go.IntKind.i64 (Go.IntKind.wrap Go.IntKind.i64 (Go.IntKind.wrap Go.IntKind.i64 (Go.IntKind.wrap Go.IntKind.i64 (Go.IntKind.wrap Go.IntKind.i64 (1 * 2) * 2) * 2) * 2) * 2) * 2) == List.getD xs 0 0) then (Bool.true) else (bif (Go.IntKind.wrap Go.IntKind.i64 (Go.IntKind.wrap Go.IntKind.i64 (Go.IntKind.wrap Go.IntKind.i64 (Go.IntKind.wrap Go.IntKind.i64 (Go.IntKind.wrap Go.IntKind.i64 (Go.IntKind.wrap Go.IntKind.i64 (Go.IntKind.wrap Go.IntKind.i64 (1 * 2) * 2) * 2) * 2) * 2) * 2) * 2) == List.getD xs 0 0) then (Bool.true) else (Bool.false)))))))))

def p91 (xs : List Int) : Prop := True

def s91 : Spec := fS [0] p91 (fun xs => vb (v91_0 xs))

def q91 : Spec where
  tr := fun args H K => match H, shA [0] args with
    | [], some xs => p91 xs ∧ ∀ (x0 : Bool), x0 = v91_0 xs → K (vb x0) []
    | _, _ => False

def v92_0 (xs : List Int) : Int := (bif (Decidable.decide (1 ≥ List.getD xs 0 0)) then (0) else (bif (Decidable.decide (Go.IntKind.wrap Go.IntKind.i64 (1 * 2) ≥ List.getD xs 0 0)) then (Go.IntKind.wrap Go.IntKind.i64 (0 + 1)) else (bif (Decidable.decide (Go.IntKind.wrap Go.IntKind.i64 (Go.IntKind.wrap Go.IntKind.i64 (1 * 2) * 2) ≥ List.getD xs 0 0)) then (Go.IntKind.wrap Go.IntKind.i64 (Go.IntKind.wrap Go.IntKind.i64 (0 + 1) + 1)) else (bif (Decidable.decide (Go.IntKind.wrap Go.IntKind.i64 (Go.IntKind.wrap Go.IntKind.i64 (Go.IntKind.wrap Go.IntKind.i64 (1 * 2) * 2) * 2) ≥ List.getD xs 0 0)) then (Go.IntKind.wrap Go.IntKind.i64 (Go.IntKind.wrap Go.IntKind.i64 (Go.IntKind.wrap Go.IntKind.i64 (0 + 1) + 1) + 1)) else (bif (Decidable.decide (Go.IntKind.wrap Go.IntKind.i64 (Go.IntKind.wrap Go.IntKind.i64 (Go.IntKind.wrap Go.IntKind.i64 (Go.IntKind.wrap Go.IntKind.i64 (1 * 2) * 2) * 2) * 2) ≥ List.getD xs 0 0)) then (Go.IntKind.wrap Go.IntKind.i64 (Go.IntKind.wrap Go.IntKind.i64 (Go.IntKind.wrap Go.IntKind.i64 (Go.IntKind.wrap Go.IntKind.i64 (0 + 1) + 1) + 1) + 1)) else (-1))))))

def p92 (xs : List Int) : Prop := True

def s92 : Spec := fS [0] p92 (fun xs => vi (v92_0 xs))

def q92 : Spec where
  tr := fun args H K => match H, shA [0] args with
    | [], some xs => p92 xs ∧ ∀ (x0 : Int), x0 = v92_0 xs → K (vi x0) []
    | _, _ => False

def v60_0 (xs : List Int) : Int := (bif (Decidable.decide (List.getD xs 0 0 < 1)) then (0) else (Go.IntKind.wrap Go.IntKind.i64 (Go.IntKind.wrap Go.IntKind.i64 (Int.tdiv (Go.IntKind.wrap Go.IntKind.i64 (List.getD xs 0 0 - 1)) 32) + 1)))

def p60 (xs : List Int) : Prop := True

def s60 : Spec := fS [0] p60 (fun xs => vi (v60_0 xs))

def q60 : Spec where
  tr := fun args H K => match H, shA [0] args with
    | [], some xs => p60 xs ∧ ∀ (x0 : Int), x0 = v60_0 xs → K (vi x0) []
    | _, _ => False

def v93_0 (xs : List Int) : Int := (bif (Decidable.decide (List.getD xs 0 0 < 1)) then (0) else (Go.IntKind.wrap Go.IntKind.i64 (Go.IntKind.wrap Go.IntKind.i64 (Int.tdiv (Go.IntKind.wrap Go.IntKind.i64 (List.getD xs 0 0 - 1)) 32) + 1)))

def p93 (xs : List Int) : Prop := True

def s93 : Spec := fS [0] p93 (fun xs => vi (v93_0 xs))

def q93 : Spec where
  tr := fun args H K => match H, shA [0] args with
    | [], some xs => p93 xs ∧ ∀ (x0 : Int), x0 = v93_0 xs → K (vi x0) []
    | _, _ => False

def v52_0 (xs : List Int) : Bool := (bif (Decidable.decide ((if List.getD xs (6 : Nat) (0 : Int) < if List.getD xs (5 : Nat) (0 : Int) < if List.getD xs (4 : Nat) (0 : Int) < if List.getD xs (3 : Nat) (0 : Int) < if List.getD xs (2 : Nat) (0 : Int) < if List.getD xs (1 : Nat) (0 : Int) < List.getD xs (0 : Nat) (0 : Int) then List.getD xs (1 : Nat) (0 : Int) else List.getD xs (0 : Nat) (0 : Int) then List.getD xs (2 : Nat) (0 : Int) else if List.getD xs (1 : Nat) (0 : Int) < List.getD xs (0 : Nat) (0 : Int) then List.getD xs (1 : Nat) (0 : Int) else List.getD xs (0 : Nat) (0 : Int) then List.getD xs (3 : Nat) (0 : Int) else if List.getD xs (2 : Nat) (0 : Int) < if List.getD xs (1 : Nat) (0 : Int) < List.getD xs (0 : Nat) (0 : Int) then List.getD xs (1 : Nat) (0 : Int) else List.getD xs (0 : Nat) (0 : Int) then List.getD xs (2 : Nat) (0 : Int) else if List.getD xs (1 : Nat) (0 : Int) < List.getD xs (0 : Nat) (0 : Int) then List.getD xs (1 : Nat) (0 : Int) else List.getD xs (0 : Nat) (0 : Int) then List.getD xs (4 : Nat) (0 : Int) else if List.getD xs (3 : Nat) (0 : Int) < if List.getD xs (2 : Nat) (0 : Int) < if List.getD xs (1 : Nat) (0 : Int) < List.getD xs (0 : Nat) (0 : Int) then List.getD xs (1 : Nat) (0 : Int) else List.getD xs (0 : Nat) (0 : Int) then List.getD xs (2 : Nat) (0 : Int) else if List.getD xs (1 : Nat) (0 : Int) < List.getD xs (0 : Nat) (0 : Int) then List.getD xs (1 : Nat) (0 : Int) else List.getD xs (0 : Nat) (0 : Int) then List.getD xs (3 : Nat) (0 : Int) else if List.getD xs (2 : Nat) (0 : Int) < if List.getD xs (1 : Nat) (0 : Int) < List.getD xs (0 : Nat) (0 : Int) then List.getD xs (1 : Nat) (0 : Int) else List.getD xs (0 : Nat) (0 : Int) then List.getD xs (2 : Nat) (0 : Int) else if List.getD xs (1 : Nat) (0 : Int) < List.getD xs (0 : Nat) (0 : Int) then List.getD xs (1 : Nat) (0 : Int) else List.getD xs (0 : Nat) (0 : Int) then List.getD xs (5 : Nat) (0 : Int) else if List.getD xs (4 : Nat) (0 : Int) < if List.getD xs (3 : Nat) (0 : Int) < if List.getD xs (2 : Nat) (0 : Int) < if List.getD xs (1 : Nat) (0 : Int) < List.getD xs (0 : Nat) (0 : Int) then List.getD xs (1 : Nat) (0 : Int) else List.getD xs (0 : Nat) (0 : Int) then List.getD xs (2 : Nat) (0 : Int) else if List.getD xs (1 : Nat) (0 : Int) < List.getD xs (0 : Nat) (0 : Int) then List.getD xs (1 : Nat) (0 : Int) else List.getD xs (0 : Nat) (0 : Int) then List.getD xs (3 : Nat) (0 : Int) else if List.getD xs (2 : Nat) (0 : Int) < if List.getD xs (1 : Nat) (0 : Int) < List.getD xs (0 : Nat) (0 : Int) then List.getD xs (1 : Nat) (0 : Int) else List.getD xs (0 : Nat) (0 : Int) then List.getD xs (2 : Nat) (0 : Int) else if List.getD xs (1 : Nat) (0 : Int) < List.getD xs (0 : Nat) (0 : Int) then List.getD xs (1 : Nat) (0 : Int) else List.getD xs (0 : Nat) (0 : Int) then List.getD xs (4 : Nat) (0 : Int) else if List.getD xs (3 : Nat) (0 : Int) < if List.getD xs (2 : Nat) (0 : Int) < if List.getD xs (1 : Nat) (0 : Int) < List.getD xs (0 : Nat) (0 : Int) then List.getD xs (1 : Nat) (0 : Int) else List.getD xs (0 : Nat) (0 : Int) then List.getD xs (2 : Nat) (0 : Int) else if List.getD xs (1 : Nat) (0 : Int) < List.getD xs (0 : Nat) (0 : Int) then List.getD xs (1 : Nat) (0 : Int) else List.getD xs (0 : Nat) (0 : Int) then List.getD xs (3 : Nat) (0 : Int) else if List.getD xs (2 : Nat) (0 : Int) < if List.getD xs (1 : Nat) (0 : Int) < List.getD xs (0 : Nat) (0 : Int) then List.getD xs (1 : Nat) (0 : Int) else List.getD xs (0 : Nat) (0 : Int) then List.getD xs (2 : Nat) (0 : Int) else if List.getD xs (1 : Nat) (0 : Int) < List.getD xs (0 : Nat) (0 : Int) then List.getD xs (1 : Nat) (0 : Int) else List.getD xs (0 : Nat) (0 : Int) then List.getD xs (6 : Nat) (0 : Int) else if List.getD xs (5 : Nat) (0 : Int) < if List.getD xs (4 : Nat) (0 : Int) < if List.getD xs (3 : Nat) (0 : Int) < if List.getD xs (2 : Nat) (0 : Int) < if List.getD xs (1 : Nat) (0 : Int) < List.getD xs (0 : Nat) (0 : Int) then List.getD xs (1 : Nat) (0 : Int) else List.getD xs (0 : Nat) (0 : Int) then List.getD xs (2 : Nat) (0 : Int) else if List.getD xs (1 : Nat) (0 : Int) < List.getD xs (0 : Nat) (0 : Int) then List.getD xs (1 : Nat) (0 : Int) else List.getD xs (0 : Nat) (0 : Int) then List.getD xs (3 : Nat) (0 : Int) else if List.getD xs (2 : Nat) (0 : Int) < if List.getD xs (1 : Nat) (0 : Int) < List.getD xs (0 : Nat) (0 : Int) then List.getD xs (1 : Nat) (0 : Int) else List.getD xs (0 : Nat) (0 : Int) then List.getD xs (2 : Nat) (0 : Int) else if List.getD xs (1 : Nat) (0 : Int) < List.getD xs (0 : Nat) (0 : Int) then List.getD xs (1 : Nat) (0 : Int) else List.getD xs (0 : Nat) (0 : Int) then List.getD xs (4 : Nat) (0 : Int) else if List.getD xs (3 : Nat) (0 : Int) < if List.getD xs (2 : Nat) (0 : Int) < if List.getD xs (1 : Nat) (0 : Int) < List.getD xs (0 : Nat) (0 : Int) then List.getD xs (1 : Nat) (0 : Int) else List.getD xs (0 : Nat) (0 : Int) then List.getD xs (2 : Nat) (0 : Int) else if List.getD xs (1 : Nat) (0 : Int) < List.getD xs (0 : Nat) (0 : Int) then List.getD xs (1 : Nat) (0 : Int) else List.getD xs (0 : Nat) (0 : Int) then List.getD xs (3 : Nat) (0 : Int) else if List.getD xs (2 : Nat) (0 : Int) < if List.getD xs (1 : Nat) (0 : Int) < List.getD xs (0 : Nat) (0 : Int) then List.getD xs (1 : Nat) (0 : Int) else List.getD xs (0 : Nat) (0 : Int) then List.getD xs (2 : Nat) (0 : Int) else if List.getD xs (1 : Nat) (0 : Int) < List.getD xs (0 : Nat) (0 : Int) then List.getD xs (1 : Nat) (0 : Int) else List.getD xs (0 : Nat) (0 : Int) then List.getD xs (5 : Nat) (0 : Int) else if List.getD xs (4 : Nat) (0 : Int) < if List.getD xs (3 : Nat) (0 : Int) < if List.getD xs (2 : Nat) (0 : Int) < if List.getD xs (1 : Nat) (0 : Int) < List.getD xs (0 : Nat) (0 : Int) then List.getD xs (1 : Nat) (0 : Int) else List.getD xs (0 : Nat) (0 : Int) then List.getD xs (2 : Nat) (0 : Int) else if List.getD xs (1 : Nat) (0 : Int) < List.getD xs (0 : Nat) (0 : Int) then List.getD xs (1 : Nat) (0 : Int) else List.getD xs (0 : Nat) (0 : Int) then List.getD xs (3 : Nat) (0 : Int) else if List.getD xs (2 : Nat) (0 : Int) < if List.getD xs (1 : Nat) (0 : Int) < List.getD xs (0 : Nat) (0 : Int) then List.getD xs (1 : Nat) (0 : Int) else List.getD xs (0 : Nat) (0 : Int) then List.getD xs (2 : Nat) (0 : Int) else if List.getD xs (1 : Nat) (0 : Int) < List.getD xs (0 : Nat) (0 : Int) then List.getD xs (1 : Nat) (0 : Int) else List.getD xs (0 : Nat) (0 : Int) then List.getD xs (4 : Nat) (0 : Int) else if List.getD xs (3 : Nat) (0 : Int) < if List.getD xs (2 : Nat) (0 : Int) < if List.getD xs (1 : Nat) (0 : Int) < List.getD xs (0 : Nat) (0 : Int) then List.getD xs (1 : Nat) (0 : Int) else List.getD xs (0 : Nat) (0 : Int) then List.getD xs (2 : Nat) (0 : Int) else if List.getD xs (1 : Nat) (0 : Int) < List.getD xs (0 : Nat) (0 : Int) then List.getD xs (1 : Nat) (0 : Int) else List.getD xs (0 : Nat) (0 : Int) then List.getD xs (3 : Nat) (0 : Int) else if List.getD xs (2 : Nat) (0 : Int) < if List.getD xs (1 : Nat) (0 : Int) < List.getD xs (0 : Nat) (0 : Int) then List.getD xs (1 : Nat) (0 : Int) else List.getD xs (0 : Nat) (0 : Int) then List.getD xs (2 : Nat) (0 : Int) else if List.getD xs (1 : Nat) (0 : Int) < List.getD xs (0 : Nat) (0 : Int) then List.getD xs (1 : Nat) (0 : Int) else List.getD xs (0 : Nat) (0 : Int)) < (0 : Int))) then (Bool.false) else (bif (Decidable.decide (List.getD xs 1 0 > List.getD xs 2 0)) then (Bool.false) else (bif (Decidable.decide (List.getD xs 0 0 > List.getD xs 2 0)) then (Bool.false) else (bif (Decidable.decide (List.getD xs 6 0 > List.getD xs 5 0)) then (Bool.false) else (bif (Decidable.decide (List.getD xs 6 0 > 1099511627776)) then (Bool.false) else (bif (Decidable.decide (List.getD xs 2 0 > 35184372088832)) then (Bool.false) else (bif (Decidable.decide (List.getD xs 3 0 > 35184372088832)) then (Bool.false) else (List.getD xs 4 0 == Go.IntKind.wrap Go.IntKind.i64 (Go.IntKind.wrap Go.IntKind.i64 (Go.IntKind.wrap Go.IntKind.i64 (32 * List.getD xs 6 0) - List.getD xs 2 0) - List.getD xs 3 0)))))))))

def p52 (xs : List Int) : Prop := True

def s52 : Spec := fS [7] p52 (fun xs => vb (v52_0 xs))

def q52 : Spec where
  tr := fun args H K => match H, shA [7] args with
    | [], some xs => p52 xs ∧ ∀ (x0 : Bool), x0 = v52_0 xs → K (vb x0) []
    | _, _ => False

def v59_0 (xs : List Int) : Int := (Go.IntKind.wrap Go.IntKind.i64 (Go.IntKind.wrap Go.IntKind.i64 (List.getD xs 2 0 + List.getD xs 3 0) + List.getD xs 4 0))

def p59 (xs : List Int) : Prop := True

def s59 : Spec := fS [7] p59 (fun xs => vi (v59_0 xs))

def q59 : Spec where
  tr := fun args H K => match H, shA [7] args with
    | [], some xs => p59 xs ∧ ∀ (x0 : Int), x0 = v59_0 xs → K (vi x0) []
    | _, _ => False

def v58_0 (xs : List Int) : Int := (Go.IntKind.wrap Go.IntKind.i64 (Go.IntKind.wrap Go.IntKind.i64 (List.getD xs 25 0 + List.getD xs 26 0) + List.getD xs 27 0))

def p58 (xs : List Int) : Prop := True

def s58 : Spec := fS [23, 7] p58 (fun xs => vi (v58_0 xs))

def q58 : Spec where
  tr := fun args H K => match H, shA [23, 7] args with
    | [], some xs => p58 xs ∧ ∀ (x0 : Int), x0 = v58_0 xs → K (vi x0) []
    | _, _ => False

def v55_0 (xs : List Int) : Int := (if Go.IntKind.wrap Go.IntKind.i64 (List.getD xs (2 : Nat) (0 : Int) - List.getD xs (17 : Nat) (0 : Int)) > (0 : Int) then Go.IntKind.wrap Go.IntKind.i64 (List.getD xs (2 : Nat) (0 : Int) - List.getD xs (17 : Nat) (0 : Int)) else (0 : Int))

def p55 (xs : List Int) : Prop := True

def s55 : Spec := fS [11, 7] p55 (fun xs => vi (v55_0 xs))

def q55 : Spec where
  tr := fun args H K => match H, shA [11, 7] args with
    | [], some xs => p55 xs ∧ ∀ (x0 : Int), x0 = v55_0 xs → K (vi x0) []
    | _, _ => False



attribute [local irreducible] Loop ex exF contK roundK retK at_ bodyOf mkEnv mkA

theorem sigA0_ok : ∀ g s, sigA0 g = some s → SpecOK Try.prog elTT g s := by
  intro g s hs
  unfold sigA0 at hs
  split at hs
  · injection hs with hs; subst hs; exact inl_ok (cfg := cfgB) (cfg_ok rfl rfl rfl) (nosig rfl) (fn := Try.f100) (by kernel_rfl) (by kernel_rfl) (by kernel_rfl)
  · injection hs with hs; subst hs; exact inl_ok (cfg := cfgA 102 (fun _ => none) (fun r => match r with | 5 => some 7 | _ => none)) (cfg_ok rfl rfl rfl) (nosig rfl) (fn := Try.f102) (by kernel_rfl) (by kernel_rfl) (by kernel_rfl)
  · cases hs
theorem sigA1_ok : ∀ g s, sigA1 g = some s → SpecOK Try.prog elTT g s := by
  intro g s hs
  unfold sigA1 at hs
  split at hs
  · injection hs with hs; subst hs; exact inl_ok (cfg := cfgA 101 sigA0 noU9) (cfg_ok rfl rfl rfl) sigA0_ok (fn := Try.f101) (by kernel_rfl) (by kernel_rfl) (by kernel_rfl)
  · exact sigA0_ok _ _ hs


theorem ok89 : SpecOK Try.prog elTT 89 s89 :=
  fS_ok (cfg := cfgA 89 sigA1 (un2 10)) (cfg_ok rfl rfl rfl) sigA1_ok (fn := Try.f89) (by kernel_rfl) (by kernel_rfl) (by kernel_rfl) fun xs K hp hk => Eq.mpr (nf89 xs K) (br_intro (fun h0 => by simpa only [v89_0, h0, cond_true, cond_false] using hk) (fun h0 => br_intro (fun h1 => by simpa only [v89_0, h0, h1, cond_true, cond_false] using hk) (fun h1 => br_intro (fun h2 => by simpa only [v89_0, h0, h1, h2, cond_true, cond_false] using hk) (fun h2 => br_intro (fun h3 => by simpa only [v89_0, h0, h1, h2, h3, cond_true, cond_false] using hk) (fun h3 => br_intro (fun h4 => by simpa only [v89_0, h0, h1, h2, h3, h4, cond_true, cond_false] using hk) (fun h4 => br_intro (fun h5 => by simpa only [v89_0, h0, h1, h2, h3, h4, h5, cond_true, cond_false] using hk) (fun h5 => br_intro (fun h6 => by simpa only [v89_0, h0, h1, h2, h3, h4, h5, h6, cond_true, cond_false] using hk) (fun h6 => br_intro (fun h7 => by simpa only [v89_0, h0, h1, h2, h3, h4, h5, h6, h7, cond_true, cond_false] using hk) (fun h7 => by simpa only [v89_0, h0, h1, h2, h3, h4, h5, h6, h7, cond_true, cond_false] using hk)))))))))

theorem okq89 : SpecOK Try.prog elTT 89 q89 :=
  spec_mono (fun args H K h => by
    unfold q89 at h
    simp only at h
    split at h
    · rename_i xs hxs
      unfold s89 fS
      simp only [hxs]
      exact ⟨h.1, h.2 _ rfl⟩
    · exact h.elim) ok89

theorem ok90 : SpecOK Try.prog elTT 90 s90 :=
  fS_ok (cfg := cfgA 90 sigA1 (un2 7)) (cfg_ok rfl rfl rfl) sigA1_ok (fn := Try.f90) (by kernel_rfl) (by kernel_rfl) (by kernel_rfl) fun xs K hp hk => Eq.mpr (nf90 xs K) (br_intro (fun h0 => by simpa only [v90_0, h0, cond_true, cond_false] using hk) (fun h0 => br_intro (fun h1 => by simpa only [v90_0, h0, h1, cond_true, cond_false] using hk) (fun h1 => br_intro (fun h2 => by simpa only [v90_0, h0, h1, h2, cond_true, cond_false] using hk) (fun h2 => br_intro (fun h3 => by simpa only [v90_0, h0, h1, h2, h3, cond_true, cond_false] using hk) (fun h3 => br_intro (fun h4 => by simpa only [v90_0, h0, h1, h2, h3, h4, cond_true, cond_false] using hk) (fun h4 => by simpa only [v90_0, h0, h1, h2, h3, h4, cond_true, cond_false] using hk))))))

theorem okq90 : SpecOK Try.prog elTT 90 q90 :=
  spec_mono (fun args H K h => by
    unfold q90 at h
    simp only at h
    split at h
    · rename_i xs hxs
      unfold s90 fS
      simp only [hxs]
      exact ⟨h.1, h.2 _ rfl⟩
    · exact h.elim) ok90

theorem ok91 : SpecOK Try.prog elTT 91 s91 :=
  fS_ok (cfg := cfgA 91 sigA1 (un2 10)) (cfg_ok rfl rfl rfl) sigA1_ok (fn := Try.f91) (by kernel_rfl) (by kernel_rfl) (by kernel_rfl) fun xs K hp hk => Eq.mpr (nf91 xs K) (br_intro (fun h0 => by simpa only [v91_0, h0, cond_true, cond_false] using hk) (fun h0 => br_intro (fun h1 => by simpa only [v91_0, h0, h1, cond_true, cond_false] using hk) (fun h1 => br_intro (fun h2 => by simpa only [v91_0, h0, h1, h2, cond_true, cond_false] using hk) (fun h2 => br_intro (fun h3 => by simpa only [v91_0, h0, h1, h2, h3, cond_true, cond_false] using hk) (fun h3 => br_intro (fun h4 => by simpa only [v91_0, h0, h1, h2, h3, h4, cond_true, cond_false] using hk) (fun h4 => br_intro (fun h5 => by simpa only [v91_0, h0, h1, h2, h3, h4, h5, cond_true, cond_false] using hk) (fun h5 => br_intro (fun h6 => by simpa only [v91_0, h0, h1, h2, h3, h4, h5, h6, cond_true, cond_false] using hk) (fun h6 => br_intro (fun h7 => by simpa only [v91_0, h0, h1, h2, h3, h4, h5, h6, h7, cond_true, cond_false] using hk) (fun h7 => by simpa only [v91_0, h0, h1, h2, h3, h4, h5, h6, h7, cond_true, cond_false] using hk)))))))))

theorem okq91 : SpecOK Try.prog elTT 91 q91 :=
  spec_mono (fun args H K h => by
    unfold q91 at h
    simp only at h
    split at h
    · rename_i xs hxs
      unfold s91 fS
      simp only [hxs]
      exact ⟨h.1, h.2 _ rfl⟩
    · exact h.elim) ok91

theorem ok92 : SpecOK Try.prog elTT 92 s92 :=
  fS_ok (cfg := cfgA 92 sigA1 (un2 7)) (cfg_ok rfl rfl rfl) sigA1_ok (fn := Try.f92) (by kernel_rfl) (by kernel_rfl) (by kernel_rfl) fun xs K hp hk => Eq.mpr (nf92 xs K) (br_intro (fun h0 => by simpa only [v92_0, h0, cond_true, cond_false] using hk) (fun h0 => br_intro (fun h1 => by simpa only [v92_0, h0, h1, cond_true, cond_false] using hk) (fun h1 => br_intro (fun h2 => by simpa only [v92_0, h0, h1, h2, cond_true, cond_false] using hk) (fun h2 => br_intro (fun h3 => by simpa only [v92_0, h0, h1, h2, h3, cond_true, cond_false] using hk) (fun h3 => br_intro (fun h4 => by simpa only [v92_0, h0, h1, h2, h3, h4, cond_true, cond_false] using hk) (fun h4 => by simpa only [v92_0, h0, h1, h2, h3, h4, cond_true, cond_false] using hk))))))

theorem okq92 : SpecOK Try.prog elTT 92 q92 :=
  spec_mono (fun args H K h => by
    unfold q92 at h
    simp only at h
    split at h
    · rename_i xs hxs
      unfold s92 fS
      simp only [hxs]
      exact ⟨h.1, h.2 _ rfl⟩
    · exact h.elim) ok92

theorem ok60 : SpecOK Try.prog elTT 60 s60 :=
  fS_ok (cfg := cfgA 60 sigA1 noU9) (cfg_ok rfl rfl rfl) sigA1_ok (fn := Try.f60) (by kernel_rfl) (by kernel_rfl) (by kernel_rfl) fun xs K hp hk => Eq.mpr (nf60 xs K) (br_intro (fun h0 => by simpa only [v60_0, h0, cond_true, cond_false] using hk) (fun h0 => by simpa only [v60_0, h0, cond_true, cond_false] using hk))

theorem okq60 : SpecOK Try.prog elTT 60 q60 :=
  spec_mono (fun args H K h => by
    unfold q60 at h
    simp only at h
    split at h
    · rename_i xs hxs
      unfold s60 fS
      simp only [hxs]
      exact ⟨h.1, h.2 _ rfl⟩
    · exact h.elim) ok60

theorem ok93 : SpecOK Try.prog elTT 93 s93 :=
  fS_ok (cfg := cfgA 93 sigA1 noU9) (cfg_ok rfl rfl rfl) sigA1_ok (fn := Try.f93) (by kernel_rfl) (by kernel_rfl) (by kernel_rfl) fun xs K hp hk => Eq.mpr (nf93 xs K) (br_intro (fun h0 => by simpa only [v93_0, h0, cond_true, cond_false] using hk) (fun h0 => by simpa only [v93_0, h0, cond_true, cond_false] using hk))

theorem okq93 : SpecOK Try.prog elTT 93 q93 :=
  spec_mono (fun args H K h => by
    unfold q93 at h
    simp only at h
    split at h
    · rename_i xs hxs
      unfold s93 fS
      simp only [hxs]
      exact ⟨h.1, h.2 _ rfl⟩
    · exact h.elim) ok93

theorem ok52 : SpecOK Try.prog elTT 52 s52 :=
  fS_ok (cfg := cfgA 52 sigA1 noU9) (cfg_ok rfl rfl rfl) sigA1_ok (fn := Try.f52) (by kernel_rfl) (by kernel_rfl) (by kernel_rfl) fun xs K hp hk => Eq.mpr (nf52 xs K) (br_intro (fun h0 => by simpa only [v52_0, h0, cond_true, cond_false] using hk) (fun h0 => br_intro (fun h1 => by simpa only [v52_0, h0, h1, cond_true, cond_false] using hk) (fun h1 => br_intro (fun h2 => by simpa only [v52_0, h0, h1, h2, cond_true, cond_false] using hk) (fun h2 => br_intro (fun h3 => by simpa only [v52_0, h0, h1, h2, h3, cond_true, cond_false] using hk) (fun h3 => br_intro (fun h4 => by simpa only [v52_0, h0, h1, h2, h3, h4, cond_true, cond_false] using hk) (fun h4 => br_intro (fun h5 => by simpa only [v52_0, h0, h1, h2, h3, h4, h5, cond_true, cond_false] using hk) (fun h5 => br_intro (fun h6 => by simpa only [v52_0, h0, h1, h2, h3, h4, h5, h6, cond_true, cond_false] using hk) (fun h6 => by simpa only [v52_0, h0, h1, h2, h3, h4, h5, h6, cond_true, cond_false] using hk))))))))

theorem okq52 : SpecOK Try.prog elTT 52 q52 :=
  spec_mono (fun args H K h => by
    unfold q52 at h
    simp only at h
    split at h
    · rename_i xs hxs
      unfold s52 fS
      simp only [hxs]
      exact ⟨h.1, h.2 _ rfl⟩
    · exact h.elim) ok52

theorem ok59 : SpecOK Try.prog elTT 59 s59 :=
  fS_ok (cfg := cfgA 59 sigA1 noU9) (cfg_ok rfl rfl rfl) sigA1_ok (fn := Try.f59) (by kernel_rfl) (by kernel_rfl) (by kernel_rfl) fun xs K hp hk => Eq.mpr (nf59 xs K) (by simpa only [v59_0, cond_true, cond_false] using hk)

theorem okq59 : SpecOK Try.prog elTT 59 q59 :=
  spec_mono (fun args H K h => by
    unfold q59 at h
    simp only at h
    split at h
    · rename_i xs hxs
      unfold s59 fS
      simp only [hxs]
      exact ⟨h.1, h.2 _ rfl⟩
    · exact h.elim) ok59

theorem ok58 : SpecOK Try.prog elTT 58 s58 :=
  fS_ok (cfg := cfgA 58 sigA1 noU9) (cfg_ok rfl rfl rfl) sigA1_ok (fn := Try.f58) (by kernel_rfl) (by kernel_rfl) (by kernel_rfl) fun xs K hp hk => Eq.mpr (nf58 xs K) (by simpa only [v58_0, cond_true, cond_false] using hk)

theorem okq58 : SpecOK Try.prog elTT 58 q58 :=
  spec_mono (fun args H K h => by
    unfold q58 at h
    simp only at h
    split at h
    · rename_i xs hxs
      unfold s58 fS
      simp only [hxs]
      exact ⟨h.1, h.2 _ rfl⟩
    · exact h.elim) ok58

theorem ok55 : SpecOK Try.prog elTT 55 s55 :=
  fS_ok (cfg := cfgA 55 sigA1 noU9) (cfg_ok rfl rfl rfl) sigA1_ok (fn := Try.f55) (by kernel_rfl) (by kernel_rfl) (by kernel_rfl) fun xs K hp hk => Eq.mpr (nf55 xs K) (by simpa only [v55_0, cond_true, cond_false] using hk)

theorem okq55 : SpecOK Try.prog elTT 55 q55 :=
  spec_mono (fun args H K h => by
    unfold q55 at h
    simp only at h
    split at h
    · rename_i xs hxs
      unfold s55 fS
      simp only [hxs]
      exact ⟨h.1, h.2 _ rfl⟩
    · exact h.elim) ok55

end Go.Rx
