/- What the reference's functions tell, off their normal forms (by a program of this session's); their contracts. -/
import Derived.Test.YtpgapdmmcanffaaN02g
namespace Go.Rx
open Go.Proofs

def v19_0 (xs : List Int) : Int := (Go.IntKind.wrap Go.IntKind.i64 (Int.tdiv (Go.IntKind.wrap Go.IntKind.i64 (List.getD xs 2 0 + 3)) 4))

def p19 (xs : List Int) : Prop := True

def s19 : Spec := fS [11] p19 (fun xs => vi (v19_0 xs))

def q19 : Spec where
  tr := fun args H K => match H, shA [11] args with
    | [], some xs => p19 xs ∧ ∀ (x0 : Int), x0 = v19_0 xs → K (vi x0) []
    | _, _ => False

def v41_0 (xs : List Int) : Int := (Go.IntKind.wrap Go.IntKind.i64 (Go.IntKind.wrap Go.IntKind.i64 (Go.IntKind.wrap Go.IntKind.i64 (Int.tdiv (Go.IntKind.wrap Go.IntKind.i64 (Go.IntKind.wrap Go.IntKind.i64 (Go.IntKind.wrap Go.IntKind.i64 (Go.IntKind.wrap Go.IntKind.i64 (Go.IntKind.wrap Go.IntKind.i64 (Go.IntKind.wrap Go.IntKind.i64 (Go.IntKind.wrap Go.IntKind.i64 (Go.IntKind.wrap Go.IntKind.i64 (3 + List.getD xs 3 0) + Go.IntKind.wrap Go.IntKind.i64 (Int.tdiv (Go.IntKind.wrap Go.IntKind.i64 (List.getD xs 2 0 + 3)) 4)) + Go.IntKind.wrap Go.IntKind.i64 (5 * List.getD xs 2 0)) + 62) + Go.IntKind.wrap Go.IntKind.i64 (Go.IntKind.wrap Go.IntKind.i64 (5 * List.getD xs 1 0) * Go.IntKind.wrap Go.IntKind.i64 (List.getD xs 8 0 + 1))) + Go.IntKind.wrap Go.IntKind.i64 (5 * Go.IntKind.wrap Go.IntKind.i64 (List.getD xs 9 0 + 1))) + Go.IntKind.wrap Go.IntKind.i64 (32 * List.getD xs 2 0)) + 127)) 128) * 128) + Go.IntKind.wrap Go.IntKind.i64 (32 * List.getD xs 2 0)))

def p41 (xs : List Int) : Prop := True

def s41 : Spec := fS [11] p41 (fun xs => vi (v41_0 xs))

def q41 : Spec where
  tr := fun args H K => match H, shA [11] args with
    | [], some xs => p41 xs ∧ ∀ (x0 : Int), x0 = v41_0 xs → K (vi x0) []
    | _, _ => False

def v42_0 (xs : List Int) : Int := (Go.IntKind.wrap Go.IntKind.i64 (Go.IntKind.wrap Go.IntKind.i64 (Int.tdiv (Go.IntKind.wrap Go.IntKind.i64 (Go.IntKind.wrap Go.IntKind.i64 (Go.IntKind.wrap Go.IntKind.i64 (Go.IntKind.wrap Go.IntKind.i64 (Go.IntKind.wrap Go.IntKind.i64 (Go.IntKind.wrap Go.IntKind.i64 (Go.IntKind.wrap Go.IntKind.i64 (Go.IntKind.wrap Go.IntKind.i64 (3 + List.getD xs 3 0) + Go.IntKind.wrap Go.IntKind.i64 (Int.tdiv (Go.IntKind.wrap Go.IntKind.i64 (List.getD xs 2 0 + 3)) 4)) + Go.IntKind.wrap Go.IntKind.i64 (5 * List.getD xs 2 0)) + 62) + Go.IntKind.wrap Go.IntKind.i64 (Go.IntKind.wrap Go.IntKind.i64 (5 * List.getD xs 1 0) * Go.IntKind.wrap Go.IntKind.i64 (List.getD xs 8 0 + 1))) + Go.IntKind.wrap Go.IntKind.i64 (5 * Go.IntKind.wrap Go.IntKind.i64 (List.getD xs 9 0 + 1))) + Go.IntKind.wrap Go.IntKind.i64 (32 * List.getD xs 2 0)) + 127)) 128) * 128))

def p42 (xs : List Int) : Prop := True

def s42 : Spec := fS [11] p42 (fun xs => vi (v42_0 xs))

def q42 : Spec where
  tr := fun args H K => match H, shA [11] args with
    | [], some xs => p42 xs ∧ ∀ (x0 : Int), x0 = v42_0 xs → K (vi x0) []
    | _, _ => False

def v21_0 (xs : List Int) : Int := (bif (Decidable.decide (List.getD xs 11 0 ≥ 0)) then (bif (!Decidable.decide (List.getD xs 11 0 < Go.IntKind.wrap Go.IntKind.i64 (Int.tdiv (Go.IntKind.wrap Go.IntKind.i64 (List.getD xs 2 0 + 3)) 4))) then (0) else (Go.IntKind.wrap Go.IntKind.i64 (Go.IntKind.wrap Go.IntKind.i64 (3 + List.getD xs 3 0) + List.getD xs 11 0))) else (0))

def p21 (xs : List Int) : Prop := True

def s21 : Spec := fS [11, 0] p21 (fun xs => vi (v21_0 xs))

def q21 : Spec where
  tr := fun args H K => match H, shA [11, 0] args with
    | [], some xs => p21 xs ∧ ∀ (x0 : Int), x0 = v21_0 xs → K (vi x0) []
    | _, _ => False

def v25_0 (xs : List Int) : Int := (bif (Decidable.decide (List.getD xs 11 0 ≥ 0)) then (bif (!Decidable.decide (List.getD xs 11 0 < List.getD xs 2 0)) then (0) else (Go.IntKind.wrap Go.IntKind.i64 (Go.IntKind.wrap Go.IntKind.i64 (Go.IntKind.wrap Go.IntKind.i64 (Go.IntKind.wrap Go.IntKind.i64 (3 + List.getD xs 3 0) + Go.IntKind.wrap Go.IntKind.i64 (Int.tdiv (Go.IntKind.wrap Go.IntKind.i64 (List.getD xs 2 0 + 3)) 4)) + Go.IntKind.wrap Go.IntKind.i64 (0 * List.getD xs 2 0)) + List.getD xs 11 0))) else (0))

def p25 (xs : List Int) : Prop := True

def s25 : Spec := fS [11, 0] p25 (fun xs => vi (v25_0 xs))

def q25 : Spec where
  tr := fun args H K => match H, shA [11, 0] args with
    | [], some xs => p25 xs ∧ ∀ (x0 : Int), x0 = v25_0 xs → K (vi x0) []
    | _, _ => False

def v27_0 (xs : List Int) : Int := (bif (Decidable.decide (List.getD xs 11 0 ≥ 0)) then (bif (!Decidable.decide (List.getD xs 11 0 < List.getD xs 2 0)) then (0) else (Go.IntKind.wrap Go.IntKind.i64 (Go.IntKind.wrap Go.IntKind.i64 (Go.IntKind.wrap Go.IntKind.i64 (Go.IntKind.wrap Go.IntKind.i64 (3 + List.getD xs 3 0) + Go.IntKind.wrap Go.IntKind.i64 (Int.tdiv (Go.IntKind.wrap Go.IntKind.i64 (List.getD xs 2 0 + 3)) 4)) + Go.IntKind.wrap Go.IntKind.i64 (1 * List.getD xs 2 0)) + List.getD xs 11 0))) else (0))

def p27 (xs : List Int) : Prop := True

def s27 : Spec := fS [11, 0] p27 (fun xs => vi (v27_0 xs))

def q27 : Spec where
  tr := fun args H K => match H, shA [11, 0] args with
    | [], some xs => p27 xs ∧ ∀ (x0 : Int), x0 = v27_0 xs → K (vi x0) []
    | _, _ => False

def v29_0 (xs : List Int) : Int := (bif (Decidable.decide (List.getD xs 11 0 ≥ 0)) then (bif (!Decidable.decide (List.getD xs 11 0 < List.getD xs 2 0)) then (0) else (Go.IntKind.wrap Go.IntKind.i64 (Go.IntKind.wrap Go.IntKind.i64 (Go.IntKind.wrap Go.IntKind.i64 (Go.IntKind.wrap Go.IntKind.i64 (3 + List.getD xs 3 0) + Go.IntKind.wrap Go.IntKind.i64 (Int.tdiv (Go.IntKind.wrap Go.IntKind.i64 (List.getD xs 2 0 + 3)) 4)) + Go.IntKind.wrap Go.IntKind.i64 (2 * List.getD xs 2 0)) + List.getD xs 11 0))) else (0))

def p29 (xs : List Int) : Prop := True

def s29 : Spec := fS [11, 0] p29 (fun xs => vi (v29_0 xs))

def q29 : Spec where
  tr := fun args H K => match H, shA [11, 0] args with
    | [], some xs => p29 xs ∧ ∀ (x0 : Int), x0 = v29_0 xs → K (vi x0) []
    | _, _ => False

def v31_0 (xs : List Int) : Int := (bif (Decidable.decide (List.getD xs 11 0 ≥ 0)) then (bif (!Decidable.decide (List.getD xs 11 0 < List.getD xs 2 0)) then (0) else (Go.IntKind.wrap Go.IntKind.i64 (Go.IntKind.wrap Go.IntKind.i64 (Go.IntKind.wrap Go.IntKind.i64 (Go.IntKind.wrap Go.IntKind.i64 (3 + List.getD xs 3 0) + Go.IntKind.wrap Go.IntKind.i64 (Int.tdiv (Go.IntKind.wrap Go.IntKind.i64 (List.getD xs 2 0 + 3)) 4)) + Go.IntKind.wrap Go.IntKind.i64 (3 * List.getD xs 2 0)) + List.getD xs 11 0))) else (0))

def p31 (xs : List Int) : Prop := True

def s31 : Spec := fS [11, 0] p31 (fun xs => vi (v31_0 xs))

def q31 : Spec where
  tr := fun args H K => match H, shA [11, 0] args with
    | [], some xs => p31 xs ∧ ∀ (x0 : Int), x0 = v31_0 xs → K (vi x0) []
    | _, _ => False

def v33_0 (xs : List Int) : Int := (bif (Decidable.decide (List.getD xs 11 0 ≥ 0)) then (bif (!Decidable.decide (List.getD xs 11 0 < List.getD xs 2 0)) then (0) else (Go.IntKind.wrap Go.IntKind.i64 (Go.IntKind.wrap Go.IntKind.i64 (Go.IntKind.wrap Go.IntKind.i64 (Go.IntKind.wrap Go.IntKind.i64 (3 + List.getD xs 3 0) + Go.IntKind.wrap Go.IntKind.i64 (Int.tdiv (Go.IntKind.wrap Go.IntKind.i64 (List.getD xs 2 0 + 3)) 4)) + Go.IntKind.wrap Go.IntKind.i64 (4 * List.getD xs 2 0)) + List.getD xs 11 0))) else (0))

def p33 (xs : List Int) : Prop := True

def s33 : Spec := fS [11, 0] p33 (fun xs => vi (v33_0 xs))

def q33 : Spec where
  tr := fun args H K => match H, shA [11, 0] args with
    | [], some xs => p33 xs ∧ ∀ (x0 : Int), x0 = v33_0 xs → K (vi x0) []
    | _, _ => False

def v35_0 (xs : List Int) : Int := (bif (Decidable.decide (List.getD xs 11 0 ≥ 0)) then (bif (!Decidable.decide (List.getD xs 11 0 < List.getD xs 2 0)) then (0) else (Go.IntKind.wrap Go.IntKind.i64 (Go.IntKind.wrap Go.IntKind.i64 (Go.IntKind.wrap Go.IntKind.i64 (Int.tdiv (Go.IntKind.wrap Go.IntKind.i64 (Go.IntKind.wrap Go.IntKind.i64 (Go.IntKind.wrap Go.IntKind.i64 (Go.IntKind.wrap Go.IntKind.i64 (Go.IntKind.wrap Go.IntKind.i64 (Go.IntKind.wrap Go.IntKind.i64 (Go.IntKind.wrap Go.IntKind.i64 (Go.IntKind.wrap Go.IntKind.i64 (3 + List.getD xs 3 0) + Go.IntKind.wrap Go.IntKind.i64 (Int.tdiv (Go.IntKind.wrap Go.IntKind.i64 (List.getD xs 2 0 + 3)) 4)) + Go.IntKind.wrap Go.IntKind.i64 (5 * List.getD xs 2 0)) + 62) + Go.IntKind.wrap Go.IntKind.i64 (Go.IntKind.wrap Go.IntKind.i64 (5 * List.getD xs 1 0) * Go.IntKind.wrap Go.IntKind.i64 (List.getD xs 8 0 + 1))) + Go.IntKind.wrap Go.IntKind.i64 (5 * Go.IntKind.wrap Go.IntKind.i64 (List.getD xs 9 0 + 1))) + Go.IntKind.wrap Go.IntKind.i64 (32 * List.getD xs 2 0)) + 127)) 128) * 128) + Go.IntKind.wrap Go.IntKind.i64 (32 * List.getD xs 11 0)))) else (0))

def p35 (xs : List Int) : Prop := True

def s35 : Spec := fS [11, 0] p35 (fun xs => vi (v35_0 xs))

def q35 : Spec where
  tr := fun args H K => match H, shA [11, 0] args with
    | [], some xs => p35 xs ∧ ∀ (x0 : Int), x0 = v35_0 xs → K (vi x0) []
    | _, _ => False

def v40_0 (xs : List Int) : Int := (bif (Decidable.decide (List.getD xs 11 0 < Go.IntKind.wrap Go.IntKind.i64 (Go.IntKind.wrap Go.IntKind.i64 (Int.tdiv (Go.IntKind.wrap Go.IntKind.i64 (Go.IntKind.wrap Go.IntKind.i64 (Go.IntKind.wrap Go.IntKind.i64 (Go.IntKind.wrap Go.IntKind.i64 (Go.IntKind.wrap Go.IntKind.i64 (Go.IntKind.wrap Go.IntKind.i64 (Go.IntKind.wrap Go.IntKind.i64 (Go.IntKind.wrap Go.IntKind.i64 (3 + List.getD xs 3 0) + Go.IntKind.wrap Go.IntKind.i64 (Int.tdiv (Go.IntKind.wrap Go.IntKind.i64 (List.getD xs 2 0 + 3)) 4)) + Go.IntKind.wrap Go.IntKind.i64 (5 * List.getD xs 2 0)) + 62) + Go.IntKind.wrap Go.IntKind.i64 (Go.IntKind.wrap Go.IntKind.i64 (5 * List.getD xs 1 0) * Go.IntKind.wrap Go.IntKind.i64 (List.getD xs 8 0 + 1))) + Go.IntKind.wrap Go.IntKind.i64 (5 * Go.IntKind.wrap Go.IntKind.i64 (List.getD xs 9 0 + 1))) + Go.IntKind.wrap Go.IntKind.i64 (32 * List.getD xs 2 0)) + 127)) 128) * 128))) then (0) else (bif (Decidable.decide (List.getD xs 11 0 ≥ Go.IntKind.wrap Go.IntKind.i64 (Go.IntKind.wrap Go.IntKind.i64 (Go.IntKind.wrap Go.IntKind.i64 (Int.tdiv (Go.IntKind.wrap Go.IntKind.i64 (Go.IntKind.wrap Go.IntKind.i64 (Go.IntKind.wrap Go.IntKind.i64 (Go.IntKind.wrap Go.IntKind.i64 (Go.IntKind.wrap Go.IntKind.i64 (Go.IntKind.wrap Go.IntKind.i64 (Go.IntKind.wrap Go.IntKind.i64 (Go.IntKind.wrap Go.IntKind.i64 (3 + List.getD xs 3 0) + Go.IntKind.wrap Go.IntKind.i64 (Int.tdiv (Go.IntKind.wrap Go.IntKind.i64 (List.getD xs 2 0 + 3)) 4)) + Go.IntKind.wrap Go.IntKind.i64 (5 * List.getD xs 2 0)) + 62) + Go.IntKind.wrap Go.IntKind.i64 (Go.IntKind.wrap Go.IntKind.i64 (5 * List.getD xs 1 0) * Go.IntKind.wrap Go.IntKind.i64 (List.getD xs 8 0 + 1))) + Go.IntKind.wrap Go.IntKind.i64 (5 * Go.IntKind.wrap Go.IntKind.i64 (List.getD xs 9 0 + 1))) + Go.IntKind.wrap Go.IntKind.i64 (32 * List.getD xs 2 0)) + 127)) 128) * 128) + Go.IntKind.wrap Go.IntKind.i64 (32 * List.getD xs 2 0)))) then (0) else (Go.IntKind.wrap Go.IntKind.i64 (Int.tdiv (Go.IntKind.wrap Go.IntKind.i64 (List.getD xs 11 0 - Go.IntKind.wrap Go.IntKind.i64 (Go.IntKind.wrap Go.IntKind.i64 (Int.tdiv (Go.IntKind.wrap Go.IntKind.i64 (Go.IntKind.wrap Go.IntKind.i64 (Go.IntKind.wrap Go.IntKind.i64 (Go.IntKind.wrap Go.IntKind.i64 (Go.IntKind.wrap Go.IntKind.i64 (Go.IntKind.wrap Go.IntKind.i64 (Go.IntKind.wrap Go.IntKind.i64 (Go.IntKind.wrap Go.IntKind.i64 (3 + List.getD xs 3 0) + Go.IntKind.wrap Go.IntKind.i64 (Int.tdiv (Go.IntKind.wrap Go.IntKind.i64 (List.getD xs 2 0 + 3)) 4)) + Go.IntKind.wrap Go.IntKind.i64 (5 * List.getD xs 2 0)) + 62) + Go.IntKind.wrap Go.IntKind.i64 (Go.IntKind.wrap Go.IntKind.i64 (5 * List.getD xs 1 0) * Go.IntKind.wrap Go.IntKind.i64 (List.getD xs 8 0 + 1))) + Go.IntKind.wrap Go.IntKind.i64 (5 * Go.IntKind.wrap Go.IntKind.i64 (List.getD xs 9 0 + 1))) + Go.IntKind.wrap Go.IntKind.i64 (32 * List.getD xs 2 0)) + 127)) 128) * 128))) 32))))

def v40_1 (xs : List Int) : Int := (bif (Decidable.decide (List.getD xs 11 0 < Go.IntKind.wrap Go.IntKind.i64 (Go.IntKind.wrap Go.IntKind.i64 (Int.tdiv (Go.IntKind.wrap Go.IntKind.i64 (Go.IntKind.wrap Go.IntKind.i64 (Go.IntKind.wrap Go.IntKind.i64 (Go.IntKind.wrap Go.IntKind.i64 (Go.IntKind.wrap Go.IntKind.i64 (Go.IntKind.wrap Go.IntKind.i64 (Go.IntKind.wrap Go.IntKind.i64 (Go.IntKind.wrap Go.IntKind.i64 (3 + List.getD xs 3 0) + Go.IntKind.wrap Go.IntKind.i64 (Int.tdiv (Go.IntKind.wrap Go.IntKind.i64 (List.getD xs 2 0 + 3)) 4)) + Go.IntKind.wrap Go.IntKind.i64 (5 * List.getD xs 2 0)) + 62) + Go.IntKind.wrap Go.IntKind.i64 (Go.IntKind.wrap Go.IntKind.i64 (5 * List.getD xs 1 0) * Go.IntKind.wrap Go.IntKind.i64 (List.getD xs 8 0 + 1))) + Go.IntKind.wrap Go.IntKind.i64 (5 * Go.IntKind.wrap Go.IntKind.i64 (List.getD xs 9 0 + 1))) + Go.IntKind.wrap Go.IntKind.i64 (32 * List.getD xs 2 0)) + 127)) 128) * 128))) then (0) else (bif (Decidable.decide (List.getD xs 11 0 ≥ Go.IntKind.wrap Go.IntKind.i64 (Go.IntKind.wrap Go.IntKind.i64 (Go.IntKind.wrap Go.IntKind.i64 (Int.tdiv (Go.IntKind.wrap Go.IntKind.i64 (Go.IntKind.wrap Go.IntKind.i64 (Go.IntKind.wrap Go.IntKind.i64 (Go.IntKind.wrap Go.IntKind.i64 (Go.IntKind.wrap Go.IntKind.i64 (Go.IntKind.wrap Go.IntKind.i64 (Go.IntKind.wrap Go.IntKind.i64 (Go.IntKind.wrap Go.IntKind.i64 (3 + List.getD xs 3 0) + Go.IntKind.wrap Go.IntKind.i64 (Int.tdiv (Go.IntKind.wrap Go.IntKind.i64 (List.getD xs 2 0 + 3)) 4)) + Go.IntKind.wrap Go.IntKind.i64 (5 * List.getD xs 2 0)) + 62) + Go.IntKind.wrap Go.IntKind.i64 (Go.IntKind.wrap Go.IntKind.i64 (5 * List.getD xs 1 0) * Go.IntKind.wrap Go.IntKind.i64 (List.getD xs 8 0 + 1))) + Go.IntKind.wrap Go.IntKind.i64 (5 * Go.IntKind.wrap Go.IntKind.i64 (List.getD xs 9 0 + 1))) + Go.IntKind.wrap Go.IntKind.i64 (32 * List.getD xs 2 0)) + 127)) 128) * 128) + Go.IntKind.wrap Go.IntKind.i64 (32 * List.getD xs 2 0)))) then (0) else (Int.tmod (Go.IntKind.wrap Go.IntKind.i64 (List.getD xs 11 0 - Go.IntKind.wrap Go.IntKind.i64 (Go.IntKind.wrap Go.IntKind.i64 (Int.tdiv (Go.IntKind.wrap Go.IntKind.i64 (Go.IntKind.wrap Go.IntKind.i64 (Go.IntKind.wrap Go.IntKind.i64 (Go.IntKind.wrap Go.IntKind.i64 (Go.IntKind.wrap Go.IntKind.i64 (Go.IntKind.wrap Go.IntKind.i64 (Go.IntKind.wrap Go.IntKind.i64 (Go.IntKind.wrap Go.IntKind.i64 (3 + List.getD xs 3 0) + Go.IntKind.wrap Go.IntKind.i64 (Int.tdiv (Go.IntKind.wrap Go.IntKind.i64 (List.getD xs 2 0 + 3)) 4)) + Go.IntKind.wrap Go.IntKind.i64 (5 * List.getD xs 2 0)) + 62) + Go.IntKind.wrap Go.IntKind.i64 (Go.IntKind.wrap Go.IntKind.i64 (5 * List.getD xs 1 0) * Go.IntKind.wrap Go.IntKind.i64 (List.getD xs 8 0 + 1))) + Go.IntKind.wrap Go.IntKind.i64 (5 * Go.IntKind.wrap Go.IntKind.i64 (List.getD xs 9 0 + 1))) + Go.IntKind.wrap Go.IntKind.i64 (32 * List.getD xs 2 0)) + 127)) 128) * 128))) 32)))

def v40_2 (xs : List Int) : Bool := (bif (Decidable.decide (List.getD xs 11 0 < Go.IntKind.wrap Go.IntKind.i64 (Go.IntKind.wrap Go.IntKind.i64 (Int.tdiv (Go.IntKind.wrap Go.IntKind.i64 (Go.IntKind.wrap Go.IntKind.i64 (Go.IntKind.wrap Go.IntKind.i64 (Go.IntKind.wrap Go.IntKind.i64 (Go.IntKind.wrap Go.IntKind.i64 (Go.IntKind.wrap Go.IntKind.i64 (Go.IntKind.wrap Go.IntKind.i64 (Go.IntKind.wrap Go.IntKind.i64 (3 + List.getD xs 3 0) + Go.IntKind.wrap Go.IntKind.i64 (Int.tdiv (Go.IntKind.wrap Go.IntKind.i64 (List.getD xs 2 0 + 3)) 4)) + Go.IntKind.wrap Go.IntKind.i64 (5 * List.getD xs 2 0)) + 62) + Go.IntKind.wrap Go.IntKind.i64 (Go.IntKind.wrap Go.IntKind.i64 (5 * List.getD xs 1 0) * Go.IntKind.wrap Go.IntKind.i64 (List.getD xs 8 0 + 1))) + Go.IntKind.wrap Go.IntKind.i64 (5 * Go.IntKind.wrap Go.IntKind.i64 (List.getD xs 9 0 + 1))) + Go.IntKind.wrap Go.IntKind.i64 (32 * List.getD xs 2 0)) + 127)) 128) * 128))) then (Bool.false) else (bif (Decidable.decide (List.getD xs 11 0 ≥ Go.IntKind.wrap Go.IntKind.i64 (Go.IntKind.wrap Go.IntKind.i64 (Go.IntKind.wrap Go.IntKind.i64 (Int.tdiv (Go.IntKind.wrap Go.IntKind.i64 (Go.IntKind.wrap Go.IntKind.i64 (Go.IntKind.wrap Go.IntKind.i64 (Go.IntKind.wrap Go.IntKind.i64 (Go.IntKind.wrap Go.IntKind.i64 (Go.IntKind.wrap Go.IntKind.i64 (Go.IntKind.wrap Go.IntKind.i64 (Go.IntKind.wrap Go.IntKind.i64 (3 + List.getD xs 3 0) + Go.IntKind.wrap Go.IntKind.i64 (Int.tdiv (Go.IntKind.wrap Go.IntKind.i64 (List.getD xs 2 0 + 3)) 4)) + Go.IntKind.wrap Go.IntKind.i64 (5 * List.getD xs 2 0)) + 62) + Go.IntKind.wrap Go.IntKind.i64 (Go.IntKind.wrap Go.IntKind.i64 (5 * List.getD xs 1 0) * Go.IntKind.wrap Go.IntKind.i64 (List.getD xs 8 0 + 1))) + Go.IntKind.wrap Go.IntKind.i64 (5 * Go.IntKind.wrap Go.IntKind.i64 (List.getD xs 9 0 + 1))) + Go.IntKind.wrap Go.IntKind.i64 (32 * List.getD xs 2 0)) + 127)) 128) * 128) + Go.IntKind.wrap Go.IntKind.i64 (32 * List.getD xs 2 0)))) then (Bool.false) else (Bool.true)))

def p40 (xs : List Int) : Prop := True

def s40 : Spec := fS [11, 0] p40 (fun xs => .tup [vi (v40_0 xs), vi (v40_1 xs), vb (v40_2 xs)])

def q40 : Spec where
  tr := fun args H K => match H, shA [11, 0] args with
    | [], some xs => p40 xs ∧ ∀ (x0 : Int) (x1 : Int) (x2 : Bool), x0 = v40_0 xs → x1 = v40_1 xs → x2 = v40_2 xs → K (.tup [vi x0, vi x1, vb x2]) []
    | _, _ => False

def v46_0 (xs : List Int) : Int := (bif (Decidable.decide (List.getD xs 11 0 < 0)) then (0) else (bif (Decidable.decide (List.getD xs 11 0 ≥ Go.IntKind.wrap Go.IntKind.i64 (Go.IntKind.wrap Go.IntKind.i64 (Go.IntKind.wrap Go.IntKind.i64 (Int.tdiv (Go.IntKind.wrap Go.IntKind.i64 (Go.IntKind.wrap Go.IntKind.i64 (Go.IntKind.wrap Go.IntKind.i64 (Go.IntKind.wrap Go.IntKind.i64 (Go.IntKind.wrap Go.IntKind.i64 (Go.IntKind.wrap Go.IntKind.i64 (Go.IntKind.wrap Go.IntKind.i64 (Go.IntKind.wrap Go.IntKind.i64 (3 + List.getD xs 3 0) + Go.IntKind.wrap Go.IntKind.i64 (Int.tdiv (Go.IntKind.wrap Go.IntKind.i64 (List.getD xs 2 0 + 3)) 4)) + Go.IntKind.wrap Go.IntKind.i64 (5 * List.getD xs 2 0)) + 62) + Go.IntKind.wrap Go.IntKind.i64 (Go.IntKind.wrap Go.IntKind.i64 (5 * List.getD xs 1 0) * Go.IntKind.wrap Go.IntKind.i64 (List.getD xs 8 0 + 1))) + Go.IntKind.wrap Go.IntKind.i64 (5 * Go.IntKind.wrap Go.IntKind.i64 (List.getD xs 9 0 + 1))) + Go.IntKind.wrap Go.IntKind.i64 (32 * List.getD xs 2 0)) + 127)) 128) * 128) + Go.IntKind.wrap Go.IntKind.i64 (32 * List.getD xs 2 0)))) then (0) else (Go.IntKind.wrap Go.IntKind.i64 (3 + Int.tmod (List.getD xs 11 0) (List.getD xs 3 0)))))

def p46 (xs : List Int) : Prop := (((Decidable.decide (List.getD xs 11 0 < 0)) = false → (((Decidable.decide (List.getD xs 11 0 ≥ Go.IntKind.wrap Go.IntKind.i64 (Go.IntKind.wrap Go.IntKind.i64 (Go.IntKind.wrap Go.IntKind.i64 (Int.tdiv (Go.IntKind.wrap Go.IntKind.i64 (Go.IntKind.wrap Go.IntKind.i64 (Go.IntKind.wrap Go.IntKind.i64 (Go.IntKind.wrap Go.IntKind.i64 (Go.IntKind.wrap Go.IntKind.i64 (Go.IntKind.wrap Go.IntKind.i64 (Go.IntKind.wrap Go.IntKind.i64 (Go.IntKind.wrap Go.IntKind.i64 (3 + List.getD xs 3 0) + Go.IntKind.wrap Go.IntKind.i64 (Int.tdiv (Go.IntKind.wrap Go.IntKind.i64 (List.getD xs 2 0 + 3)) 4)) + Go.IntKind.wrap Go.IntKind.i64 (5 * List.getD xs 2 0)) + 62) + Go.IntKind.wrap Go.IntKind.i64 (Go.IntKind.wrap Go.IntKind.i64 (5 * List.getD xs 1 0) * Go.IntKind.wrap Go.IntKind.i64 (List.getD xs 8 0 + 1))) + Go.IntKind.wrap Go.IntKind.i64 (5 * Go.IntKind.wrap Go.IntKind.i64 (List.getD xs 9 0 + 1))) + Go.IntKind.wrap Go.IntKind.i64 (32 * List.getD xs 2 0)) + 127)) 128) * 128) + Go.IntKind.wrap Go.IntKind.i64 (32 * List.getD xs 2 0)))) = false → ((!List.getD xs 3 0 == 0) = true)))))

def s46 : Spec := fS [11, 0] p46 (fun xs => vi (v46_0 xs))

def q46 : Spec where
  tr := fun args H K => match H, shA [11, 0] args with
    | [], some xs => p46 xs ∧ ∀ (x0 : Int), x0 = v46_0 xs → K (vi x0) []
    | _, _ => False

def v48_0 (xs : List Int) : Int := (bif (Decidable.decide (List.getD xs 11 0 ≥ 0)) then (bif (!Decidable.decide (List.getD xs 11 0 ≤ 4)) then (0) else (Go.IntKind.wrap Go.IntKind.i64 (Go.IntKind.wrap Go.IntKind.i64 (Go.IntKind.wrap Go.IntKind.i64 (Go.IntKind.wrap Go.IntKind.i64 (Go.IntKind.wrap Go.IntKind.i64 (Go.IntKind.wrap Go.IntKind.i64 (3 + List.getD xs 3 0) + Go.IntKind.wrap Go.IntKind.i64 (Int.tdiv (Go.IntKind.wrap Go.IntKind.i64 (List.getD xs 2 0 + 3)) 4)) + Go.IntKind.wrap Go.IntKind.i64 (5 * List.getD xs 2 0)) + 62) + Go.IntKind.wrap Go.IntKind.i64 (Go.IntKind.wrap Go.IntKind.i64 (5 * List.getD xs 1 0) * Go.IntKind.wrap Go.IntKind.i64 (List.getD xs 8 0 + 1))) + Go.IntKind.wrap Go.IntKind.i64 (List.getD xs 11 0 * Go.IntKind.wrap Go.IntKind.i64 (List.getD xs 9 0 + 1))))) else (0))

def p48 (xs : List Int) : Prop := True

def s48 : Spec := fS [11, 0] p48 (fun xs => vi (v48_0 xs))

def q48 : Spec where
  tr := fun args H K => match H, shA [11, 0] args with
    | [], some xs => p48 xs ∧ ∀ (x0 : Int), x0 = v48_0 xs → K (vi x0) []
    | _, _ => False

def v49_0 (xs : List Int) : Int := (bif (Decidable.decide (List.getD xs 11 0 ≥ Go.IntKind.wrap Go.IntKind.i64 (Go.IntKind.wrap Go.IntKind.i64 (Int.tdiv (Go.IntKind.wrap Go.IntKind.i64 (Go.IntKind.wrap Go.IntKind.i64 (Go.IntKind.wrap Go.IntKind.i64 (Go.IntKind.wrap Go.IntKind.i64 (Go.IntKind.wrap Go.IntKind.i64 (Go.IntKind.wrap Go.IntKind.i64 (Go.IntKind.wrap Go.IntKind.i64 (Go.IntKind.wrap Go.IntKind.i64 (3 + List.getD xs 3 0) + Go.IntKind.wrap Go.IntKind.i64 (Int.tdiv (Go.IntKind.wrap Go.IntKind.i64 (List.getD xs 2 0 + 3)) 4)) + Go.IntKind.wrap Go.IntKind.i64 (5 * List.getD xs 2 0)) + 62) + Go.IntKind.wrap Go.IntKind.i64 (Go.IntKind.wrap Go.IntKind.i64 (5 * List.getD xs 1 0) * Go.IntKind.wrap Go.IntKind.i64 (List.getD xs 8 0 + 1))) + Go.IntKind.wrap Go.IntKind.i64 (5 * Go.IntKind.wrap Go.IntKind.i64 (List.getD xs 9 0 + 1))) + Go.IntKind.wrap Go.IntKind.i64 (32 * List.getD xs 2 0)) + 127)) 128) * 128))) then (bif (!Decidable.decide (List.getD xs 11 0 < Go.IntKind.wrap Go.IntKind.i64 (Go.IntKind.wrap Go.IntKind.i64 (Go.IntKind.wrap Go.IntKind.i64 (Int.tdiv (Go.IntKind.wrap Go.IntKind.i64 (Go.IntKind.wrap Go.IntKind.i64 (Go.IntKind.wrap Go.IntKind.i64 (Go.IntKind.wrap Go.IntKind.i64 (Go.IntKind.wrap Go.IntKind.i64 (Go.IntKind.wrap Go.IntKind.i64 (Go.IntKind.wrap Go.IntKind.i64 (Go.IntKind.wrap Go.IntKind.i64 (3 + List.getD xs 3 0) + Go.IntKind.wrap Go.IntKind.i64 (Int.tdiv (Go.IntKind.wrap Go.IntKind.i64 (List.getD xs 2 0 + 3)) 4)) + Go.IntKind.wrap Go.IntKind.i64 (5 * List.getD xs 2 0)) + 62) + Go.IntKind.wrap Go.IntKind.i64 (Go.IntKind.wrap Go.IntKind.i64 (5 * List.getD xs 1 0) * Go.IntKind.wrap Go.IntKind.i64 (List.getD xs 8 0 + 1))) + Go.IntKind.wrap Go.IntKind.i64 (5 * Go.IntKind.wrap Go.IntKind.i64 (List.getD xs 9 0 + 1))) + Go.IntKind.wrap Go.IntKind.i64 (32 * List.getD xs 2 0)) + 127)) 128) * 128) + Go.IntKind.wrap Go.IntKind.i64 (32 * List.getD xs 2 0)))) then (0) else (Go.IntKind.wrap Go.IntKind.i64 (Go.IntKind.wrap Go.IntKind.i64 (Go.IntKind.wrap Go.IntKind.i64 (Go.IntKind.wrap Go.IntKind.i64 (Go.IntKind.wrap Go.IntKind.i64 (Go.IntKind.wrap Go.IntKind.i64 (Go.IntKind.wrap Go.IntKind.i64 (Go.IntKind.wrap Go.IntKind.i64 (3 + List.getD xs 3 0) + Go.IntKind.wrap Go.IntKind.i64 (Int.tdiv (Go.IntKind.wrap Go.IntKind.i64 (List.getD xs 2 0 + 3)) 4)) + Go.IntKind.wrap Go.IntKind.i64 (5 * List.getD xs 2 0)) + 62) + Go.IntKind.wrap Go.IntKind.i64 (Go.IntKind.wrap Go.IntKind.i64 (5 * List.getD xs 1 0) * Go.IntKind.wrap Go.IntKind.i64 (List.getD xs 8 0 + 1))) + Go.IntKind.wrap Go.IntKind.i64 (5 * Go.IntKind.wrap Go.IntKind.i64 (List.getD xs 9 0 + 1))) + List.getD xs 11 0) - Go.IntKind.wrap Go.IntKind.i64 (Go.IntKind.wrap Go.IntKind.i64 (Int.tdiv (Go.IntKind.wrap Go.IntKind.i64 (Go.IntKind.wrap Go.IntKind.i64 (Go.IntKind.wrap Go.IntKind.i64 (Go.IntKind.wrap Go.IntKind.i64 (Go.IntKind.wrap Go.IntKind.i64 (Go.IntKind.wrap Go.IntKind.i64 (Go.IntKind.wrap Go.IntKind.i64 (Go.IntKind.wrap Go.IntKind.i64 (3 + List.getD xs 3 0) + Go.IntKind.wrap Go.IntKind.i64 (Int.tdiv (Go.IntKind.wrap Go.IntKind.i64 (List.getD xs 2 0 + 3)) 4)) + Go.IntKind.wrap Go.IntKind.i64 (5 * List.getD xs 2 0)) + 62) + Go.IntKind.wrap Go.IntKind.i64 (Go.IntKind.wrap Go.IntKind.i64 (5 * List.getD xs 1 0) * Go.IntKind.wrap Go.IntKind.i64 (List.getD xs 8 0 + 1))) + Go.IntKind.wrap Go.IntKind.i64 (5 * Go.IntKind.wrap Go.IntKind.i64 (List.getD xs 9 0 + 1))) + Go.IntKind.wrap Go.IntKind.i64 (32 * List.getD xs 2 0)) + 127)) 128) * 128)))) else (0))

def p49 (xs : List Int) : Prop := True

def s49 : Spec := fS [11, 0] p49 (fun xs => vi (v49_0 xs))

def q49 : Spec where
  tr := fun args H K => match H, shA [11, 0] args with
    | [], some xs => p49 xs ∧ ∀ (x0 : Int), x0 = v49_0 xs → K (vi x0) []
    | _, _ => False

def v47_0 (xs : List Int) : Int := (bif (Decidable.decide (List.getD xs 11 0 ≥ 0)) then (bif (Decidable.decide (List.getD xs 11 0 < List.getD xs 1 0)) then (bif (Decidable.decide (List.getD xs 12 0 ≥ 0)) then (bif (!Decidable.decide (List.getD xs 12 0 ≤ 4)) then (0) else (Go.IntKind.wrap Go.IntKind.i64 (Go.IntKind.wrap Go.IntKind.i64 (Go.IntKind.wrap Go.IntKind.i64 (Go.IntKind.wrap Go.IntKind.i64 (Go.IntKind.wrap Go.IntKind.i64 (3 + List.getD xs 3 0) + Go.IntKind.wrap Go.IntKind.i64 (Int.tdiv (Go.IntKind.wrap Go.IntKind.i64 (List.getD xs 2 0 + 3)) 4)) + Go.IntKind.wrap Go.IntKind.i64 (5 * List.getD xs 2 0)) + 62) + Go.IntKind.wrap Go.IntKind.i64 (Go.IntKind.wrap Go.IntKind.i64 (Go.IntKind.wrap Go.IntKind.i64 (5 * List.getD xs 11 0) + List.getD xs 12 0) * Go.IntKind.wrap Go.IntKind.i64 (List.getD xs 8 0 + 1))))) else (0)) else (0)) else (0))

def p47 (xs : List Int) : Prop := True

def s47 : Spec := fS [11, 0, 0] p47 (fun xs => vi (v47_0 xs))

def q47 : Spec where
  tr := fun args H K => match H, shA [11, 0, 0] args with
    | [], some xs => p47 xs ∧ ∀ (x0 : Int), x0 = v47_0 xs → K (vi x0) []
    | _, _ => False



attribute [local irreducible] Loop ex exF contK roundK retK at_ bodyOf mkEnv mkA

theorem sigR0_ok : ∀ g s, sigR0 g = some s → SpecOK Try.prog elTT g s := by
  intro g s hs
  unfold sigR0 at hs
  split at hs
  · injection hs with hs; subst hs; exact inl_ok (cfg := cfgB) (cfg_ok rfl rfl rfl) (nosig rfl) (fn := Try.f19) (by kernel_rfl) (by kernel_rfl) (by kernel_rfl)
  · injection hs with hs; subst hs; exact inl_ok (cfg := cfgB) (cfg_ok rfl rfl rfl) (nosig rfl) (fn := Try.f71) (by kernel_rfl) (by kernel_rfl) (by kernel_rfl)
  · injection hs with hs; subst hs; exact inl_ok (cfg := cfgB) (cfg_ok rfl rfl rfl) (nosig rfl) (fn := Try.f72) (by kernel_rfl) (by kernel_rfl) (by kernel_rfl)
  · injection hs with hs; subst hs; exact inl_ok (cfg := cfg74) (cfg_ok rfl rfl rfl) (nosig rfl) (fn := Try.f74) (by kernel_rfl) (by kernel_rfl) (by kernel_rfl)
  · cases hs

theorem sigR1_ok : ∀ g s, sigR1 g = some s → SpecOK Try.prog elTT g s := by
  intro g s hs
  unfold sigR1 at hs
  split at hs
  · injection hs with hs; subst hs; exact inl_ok (cfg := cfgR 75 sigR0 noU) (cfg_ok rfl rfl rfl) sigR0_ok (fn := Try.f75) (by kernel_rfl) (by kernel_rfl) (by kernel_rfl)
  · injection hs with hs; subst hs; exact inl_ok (cfg := cfgR 76 sigR0 noU) (cfg_ok rfl rfl rfl) sigR0_ok (fn := Try.f76) (by kernel_rfl) (by kernel_rfl) (by kernel_rfl)
  · exact sigR0_ok _ _ hs

theorem sigR2_ok : ∀ g s, sigR2 g = some s → SpecOK Try.prog elTT g s := by
  intro g s hs
  unfold sigR2 at hs
  split at hs
  · injection hs with hs; subst hs; exact inl_ok (cfg := cfgR 79 sigR1 noU) (cfg_ok rfl rfl rfl) sigR1_ok (fn := Try.f79) (by kernel_rfl) (by kernel_rfl) (by kernel_rfl)
  · exact sigR1_ok _ _ hs

theorem sigR3_ok : ∀ g s, sigR3 g = some s → SpecOK Try.prog elTT g s := by
  intro g s hs
  unfold sigR3 at hs
  split at hs
  · injection hs with hs; subst hs; exact inl_ok (cfg := cfgR 80 sigR2 noU) (cfg_ok rfl rfl rfl) sigR2_ok (fn := Try.f80) (by kernel_rfl) (by kernel_rfl) (by kernel_rfl)
  · exact sigR2_ok _ _ hs

theorem sigR4_ok : ∀ g s, sigR4 g = some s → SpecOK Try.prog elTT g s := by
  intro g s hs
  unfold sigR4 at hs
  split at hs
  · injection hs with hs; subst hs; exact inl_ok (cfg := cfgR 78 sigR3 noU) (cfg_ok rfl rfl rfl) sigR3_ok (fn := Try.f78) (by kernel_rfl) (by kernel_rfl) (by kernel_rfl)
  · exact sigR3_ok _ _ hs

theorem sigR5_ok : ∀ g s, sigR5 g = some s → SpecOK Try.prog elTT g s := by
  intro g s hs
  unfold sigR5 at hs
  split at hs
  · injection hs with hs; subst hs; exact inl_ok (cfg := cfgR 42 sigR4 noU) (cfg_ok rfl rfl rfl) sigR4_ok (fn := Try.f42) (by kernel_rfl) (by kernel_rfl) (by kernel_rfl)
  · exact sigR4_ok _ _ hs

theorem sigR_ok : ∀ g s, sigR g = some s → SpecOK Try.prog elTT g s := by
  intro g s hs
  unfold sigR at hs
  split at hs
  · injection hs with hs; subst hs; exact inl_ok (cfg := cfgR 41 sigR5 noU) (cfg_ok rfl rfl rfl) sigR5_ok (fn := Try.f41) (by kernel_rfl) (by kernel_rfl) (by kernel_rfl)
  · exact sigR5_ok _ _ hs



theorem ok19 : SpecOK Try.prog elTT 19 s19 :=
  fS_ok (cfg := cfgQ 19) (cfg_ok rfl rfl rfl) sigR_ok (fn := Try.f19) (by kernel_rfl) (by kernel_rfl) (by kernel_rfl) fun xs K hp hk => Eq.mpr (nf19 xs K) (by simpa only [v19_0, cond_true, cond_false] using hk)

theorem okq19 : SpecOK Try.prog elTT 19 q19 :=
  spec_mono (fun args H K h => by
    unfold q19 at h
    simp only at h
    split at h
    · rename_i xs hxs
      unfold s19 fS
      simp only [hxs]
      exact ⟨h.1, h.2 _ rfl⟩
    · exact h.elim) ok19

theorem ok41 : SpecOK Try.prog elTT 41 s41 :=
  fS_ok (cfg := cfgQ 41) (cfg_ok rfl rfl rfl) sigR_ok (fn := Try.f41) (by kernel_rfl) (by kernel_rfl) (by kernel_rfl) fun xs K hp hk => Eq.mpr (nf41 xs K) (by simpa only [v41_0, cond_true, cond_false] using hk)

theorem okq41 : SpecOK Try.prog elTT 41 q41 :=
  spec_mono (fun args H K h => by
    unfold q41 at h
    simp only at h
    split at h
    · rename_i xs hxs
      unfold s41 fS
      simp only [hxs]
      exact ⟨h.1, h.2 _ rfl⟩
    · exact h.elim) ok41

theorem ok42 : SpecOK Try.prog elTT 42 s42 :=
  fS_ok (cfg := cfgQ 42) (cfg_ok rfl rfl rfl) sigR_ok (fn := Try.f42) (by kernel_rfl) (by kernel_rfl) (by kernel_rfl) fun xs K hp hk => Eq.mpr (nf42 xs K) (by simpa only [v42_0, cond_true, cond_false] using hk)

theorem okq42 : SpecOK Try.prog elTT 42 q42 :=
  spec_mono (fun args H K h => by
    unfold q42 at h
    simp only at h
    split at h
    · rename_i xs hxs
      unfold s42 fS
      simp only [hxs]
      exact ⟨h.1, h.2 _ rfl⟩
    · exact h.elim) ok42

theorem ok21 : SpecOK Try.prog elTT 21 s21 :=
  fS_ok (cfg := cfgQ 21) (cfg_ok rfl rfl rfl) sigR_ok (fn := Try.f21) (by kernel_rfl) (by kernel_rfl) (by kernel_rfl) fun xs K hp hk => Eq.mpr (nf21 xs K) (br_intro (fun h0 => br_intro (fun h1 => by simpa only [v21_0, h0, h1, cond_true, cond_false] using hk) (fun h1 => by simpa only [v21_0, h0, h1, cond_true, cond_false] using hk)) (fun h0 => by simpa only [v21_0, h0, cond_true, cond_false] using hk))

theorem okq21 : SpecOK Try.prog elTT 21 q21 :=
  spec_mono (fun args H K h => by
    unfold q21 at h
    simp only at h
    split at h
    · rename_i xs hxs
      unfold s21 fS
      simp only [hxs]
      exact ⟨h.1, h.2 _ rfl⟩
    · exact h.elim) ok21

theorem ok25 : SpecOK Try.prog elTT 25 s25 :=
  fS_ok (cfg := cfgQ 25) (cfg_ok rfl rfl rfl) sigR_ok (fn := Try.f25) (by kernel_rfl) (by kernel_rfl) (by kernel_rfl) fun xs K hp hk => Eq.mpr (nf25 xs K) (br_intro (fun h0 => br_intro (fun h1 => by simpa only [v25_0, h0, h1, cond_true, cond_false] using hk) (fun h1 => by simpa only [v25_0, h0, h1, cond_true, cond_false] using hk)) (fun h0 => by simpa only [v25_0, h0, cond_true, cond_false] using hk))

theorem okq25 : SpecOK Try.prog elTT 25 q25 :=
  spec_mono (fun args H K h => by
    unfold q25 at h
    simp only at h
    split at h
    · rename_i xs hxs
      unfold s25 fS
      simp only [hxs]
      exact ⟨h.1, h.2 _ rfl⟩
    · exact h.elim) ok25

theorem ok27 : SpecOK Try.prog elTT 27 s27 :=
  fS_ok (cfg := cfgQ 27) (cfg_ok rfl rfl rfl) sigR_ok (fn := Try.f27) (by kernel_rfl) (by kernel_rfl) (by kernel_rfl) fun xs K hp hk => Eq.mpr (nf27 xs K) (br_intro (fun h0 => br_intro (fun h1 => by simpa only [v27_0, h0, h1, cond_true, cond_false] using hk) (fun h1 => by simpa only [v27_0, h0, h1, cond_true, cond_false] using hk)) (fun h0 => by simpa only [v27_0, h0, cond_true, cond_false] using hk))

theorem okq27 : SpecOK Try.prog elTT 27 q27 :=
  spec_mono (fun args H K h => by
    unfold q27 at h
    simp only at h
    split at h
    · rename_i xs hxs
      unfold s27 fS
      simp only [hxs]
      exact ⟨h.1, h.2 _ rfl⟩
    · exact h.elim) ok27

theorem ok29 : SpecOK Try.prog elTT 29 s29 :=
  fS_ok (cfg := cfgQ 29) (cfg_ok rfl rfl rfl) sigR_ok (fn := Try.f29) (by kernel_rfl) (by kernel_rfl) (by kernel_rfl) fun xs K hp hk => Eq.mpr (nf29 xs K) (br_intro (fun h0 => br_intro (fun h1 => by simpa only [v29_0, h0, h1, cond_true, cond_false] using hk) (fun h1 => by simpa only [v29_0, h0, h1, cond_true, cond_false] using hk)) (fun h0 => by simpa only [v29_0, h0, cond_true, cond_false] using hk))

theorem okq29 : SpecOK Try.prog elTT 29 q29 :=
  spec_mono (fun args H K h => by
    unfold q29 at h
    simp only at h
    split at h
    · rename_i xs hxs
      unfold s29 fS
      simp only [hxs]
      exact ⟨h.1, h.2 _ rfl⟩
    · exact h.elim) ok29

theorem ok31 : SpecOK Try.prog elTT 31 s31 :=
  fS_ok (cfg := cfgQ 31) (cfg_ok rfl rfl rfl) sigR_ok (fn := Try.f31) (by kernel_rfl) (by kernel_rfl) (by kernel_rfl) fun xs K hp hk => Eq.mpr (nf31 xs K) (br_intro (fun h0 => br_intro (fun h1 => by simpa only [v31_0, h0, h1, cond_true, cond_false] using hk) (fun h1 => by simpa only [v31_0, h0, h1, cond_true, cond_false] using hk)) (fun h0 => by simpa only [v31_0, h0, cond_true, cond_false] using hk))

theorem okq31 : SpecOK Try.prog elTT 31 q31 :=
  spec_mono (fun args H K h => by
    unfold q31 at h
    simp only at h
    split at h
    · rename_i xs hxs
      unfold s31 fS
      simp only [hxs]
      exact ⟨h.1, h.2 _ rfl⟩
    · exact h.elim) ok31

theorem ok33 : SpecOK Try.prog elTT 33 s33 :=
  fS_ok (cfg := cfgQ 33) (cfg_ok rfl rfl rfl) sigR_ok (fn := Try.f33) (by kernel_rfl) (by kernel_rfl) (by kernel_rfl) fun xs K hp hk => Eq.mpr (nf33 xs K) (br_intro (fun h0 => br_intro (fun h1 => by simpa only [v33_0, h0, h1, cond_true, cond_false] using hk) (fun h1 => by simpa only [v33_0, h0, h1, cond_true, cond_false] using hk)) (fun h0 => by simpa only [v33_0, h0, cond_true, cond_false] using hk))

theorem okq33 : SpecOK Try.prog elTT 33 q33 :=
  spec_mono (fun args H K h => by
    unfold q33 at h
    simp only at h
    split at h
    · rename_i xs hxs
      unfold s33 fS
      simp only [hxs]
      exact ⟨h.1, h.2 _ rfl⟩
    · exact h.elim) ok33

theorem ok35 : SpecOK Try.prog elTT 35 s35 :=
  fS_ok (cfg := cfgQ 35) (cfg_ok rfl rfl rfl) sigR_ok (fn := Try.f35) (by kernel_rfl) (by kernel_rfl) (by kernel_rfl) fun xs K hp hk => Eq.mpr (nf35 xs K) (br_intro (fun h0 => br_intro (fun h1 => by simpa only [v35_0, h0, h1, cond_true, cond_false] using hk) (fun h1 => by simpa only [v35_0, h0, h1, cond_true, cond_false] using hk)) (fun h0 => by simpa only [v35_0, h0, cond_true, cond_false] using hk))

theorem okq35 : SpecOK Try.prog elTT 35 q35 :=
  spec_mono (fun args H K h => by
    unfold q35 at h
    simp only at h
    split at h
    · rename_i xs hxs
      unfold s35 fS
      simp only [hxs]
      exact ⟨h.1, h.2 _ rfl⟩
    · exact h.elim) ok35

theorem ok40 : SpecOK Try.prog elTT 40 s40 :=
  fS_ok (cfg := cfgQ 40) (cfg_ok rfl rfl rfl) sigR_ok (fn := Try.f40) (by kernel_rfl) (by kernel_rfl) (by kernel_rfl) fun xs K hp hk => Eq.mpr (nf40 xs K) (br_intro (fun h0 => by simpa only [v40_0, v40_1, v40_2, h0, cond_true, cond_false] using hk) (fun h0 => br_intro (fun h1 => by simpa only [v40_0, v40_1, v40_2, h0, h1, cond_true, cond_false] using hk) (fun h1 => by simpa only [v40_0, v40_1, v40_2, h0, h1, cond_true, cond_false] using hk)))

theorem okq40 : SpecOK Try.prog elTT 40 q40 :=
  spec_mono (fun args H K h => by
    unfold q40 at h
    simp only at h
    split at h
    · rename_i xs hxs
      unfold s40 fS
      simp only [hxs]
      exact ⟨h.1, h.2 _ _ _ rfl rfl rfl⟩
    · exact h.elim) ok40

theorem ok46 : SpecOK Try.prog elTT 46 s46 :=
  fS_ok (cfg := cfgQ 46) (cfg_ok rfl rfl rfl) sigR_ok (fn := Try.f46) (by kernel_rfl) (by kernel_rfl) (by kernel_rfl) fun xs K hp hk => Eq.mpr (nf46 xs K) (br_intro (fun h0 => by simpa only [v46_0, h0, cond_true, cond_false] using hk) (fun h0 => br_intro (fun h1 => by simpa only [v46_0, h0, h1, cond_true, cond_false] using hk) (fun h1 => Req_intro ((hp h0) h1) (by simpa only [v46_0, h0, h1, cond_true, cond_false] using hk))))

theorem okq46 : SpecOK Try.prog elTT 46 q46 :=
  spec_mono (fun args H K h => by
    unfold q46 at h
    simp only at h
    split at h
    · rename_i xs hxs
      unfold s46 fS
      simp only [hxs]
      exact ⟨h.1, h.2 _ rfl⟩
    · exact h.elim) ok46

theorem ok48 : SpecOK Try.prog elTT 48 s48 :=
  fS_ok (cfg := cfgQ 48) (cfg_ok rfl rfl rfl) sigR_ok (fn := Try.f48) (by kernel_rfl) (by kernel_rfl) (by kernel_rfl) fun xs K hp hk => Eq.mpr (nf48 xs K) (br_intro (fun h0 => br_intro (fun h1 => by simpa only [v48_0, h0, h1, cond_true, cond_false] using hk) (fun h1 => by simpa only [v48_0, h0, h1, cond_true, cond_false] using hk)) (fun h0 => by simpa only [v48_0, h0, cond_true, cond_false] using hk))

theorem okq48 : SpecOK Try.prog elTT 48 q48 :=
  spec_mono (fun args H K h => by
    unfold q48 at h
    simp only at h
    split at h
    · rename_i xs hxs
      unfold s48 fS
      simp only [hxs]
      exact ⟨h.1, h.2 _ rfl⟩
    · exact h.elim) ok48

theorem ok49 : SpecOK Try.prog elTT 49 s49 :=
  fS_ok (cfg := cfgQ 49) (cfg_ok rfl rfl rfl) sigR_ok (fn := Try.f49) (by kernel_rfl) (by kernel_rfl) (by kernel_rfl) fun xs K hp hk => Eq.mpr (nf49 xs K) (br_intro (fun h0 => br_intro (fun h1 => by simpa only [v49_0, h0, h1, cond_true, cond_false] using hk) (fun h1 => by simpa only [v49_0, h0, h1, cond_true, cond_false] using hk)) (fun h0 => by simpa only [v49_0, h0, cond_true, cond_false] using hk))

theorem okq49 : SpecOK Try.prog elTT 49 q49 :=
  spec_mono (fun args H K h => by
    unfold q49 at h
    simp only at h
    split at h
    · rename_i xs hxs
      unfold s49 fS
      simp only [hxs]
      exact ⟨h.1, h.2 _ rfl⟩
    · exact h.elim) ok49

theorem ok47 : SpecOK Try.prog elTT 47 s47 :=
  fS_ok (cfg := cfgQ 47) (cfg_ok rfl rfl rfl) sigR_ok (fn := Try.f47) (by kernel_rfl) (by kernel_rfl) (by kernel_rfl) fun xs K hp hk => Eq.mpr (nf47 xs K) (br_intro (fun h0 => br_intro (fun h1 => br_intro (fun h2 => br_intro (fun h3 => by simpa only [v47_0, h0, h1, h2, h3, cond_true, cond_false] using hk) (fun h3 => by simpa only [v47_0, h0, h1, h2, h3, cond_true, cond_false] using hk)) (fun h2 => by simpa only [v47_0, h0, h1, h2, cond_true, cond_false] using hk)) (fun h1 => by simpa only [v47_0, h0, h1, cond_true, cond_false] using hk)) (fun h0 => by simpa only [v47_0, h0, cond_true, cond_false] using hk))

theorem okq47 : SpecOK Try.prog elTT 47 q47 :=
  spec_mono (fun args H K h => by
    unfold q47 at h
    simp only at h
    split at h
    · rename_i xs hxs
      unfold s47 fS
      simp only [hxs]
      exact ⟨h.1, h.2 _ rfl⟩
    · exact h.elim) ok47

end Go.Rx
