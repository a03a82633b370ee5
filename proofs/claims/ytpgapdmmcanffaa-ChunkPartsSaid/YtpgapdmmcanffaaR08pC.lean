/- What the row's text of this claim stands on, part 3: the symbolic executor, and contracts of the program's functions. No condition. -/
import Derived.Recover
import Derived.Test.YtpgapdmmcanffaaR08pB
section
/- Normal forms of the program's code (by a program of this session's; the kernel checks each). -/
namespace Go.Rx
open Go.Proofs
set_option maxRecDepth 100000
theorem nf14 (xs : List Int) (K : V → Heap → Prop) : (exF cfgM Try.f14 (mkA [23] 0 xs) [] K) = (
    K (.agg [vi (List.getD xs 0 0), vi (List.getD xs 1 0), vi (List.getD xs 2 0), vi (List.getD xs 3 0), vi (List.getD xs 4 0), vi (List.getD xs 5 0), vi (List.getD xs 6 0), vi (List.getD xs 7 0), vi (List.getD xs 8 0), vi (List.getD xs 9 0), vi (List.getD xs 10 0)]) []) := by
  kernel_rfl

theorem nf15 (xs : List Int) (K : V → Heap → Prop) : (exF cfgM Try.f15 (mkA [23] 0 xs) [] K) = (
    K (vi (List.getD xs 22 0)) []) := by
  kernel_rfl

theorem nf18 (xs : List Int) (K : V → Heap → Prop) : (exF cfgM Try.f18 (mkA [23] 0 xs) [] K) = (
    ((
      ((
        (Int.NonNeg (List.getD xs 2 0 - 0))) ∧ (
        (Int.NonNeg (1099511627776 - List.getD xs 2 0))))) ∧ (
      K (vi ((List.getD xs 2 0 + 3) / 4)) []))) := by
  kernel_rfl

theorem nf38 (xs : List Int) (K : V → Heap → Prop) : (exF cfgM Try.f38 (mkA [23] 0 xs) [] K) = (
    K (vi (List.getD xs 21 0)) []) := by
  kernel_rfl

theorem nf24 (xs : List Int) (K : V → Heap → Prop) : (exF cfgM Try.f24 (mkA [23, 0] 0 xs) [] K) = (
    br (Decidable.decide (List.getD xs 23 0 < 0))
      (
      K (vi (0)) [])
      (
      br (Decidable.decide (List.getD xs 23 0 ≥ List.getD xs 2 0))
        (
        K (vi (0)) [])
        (
        K (vi (Go.IntKind.wrap Go.IntKind.i64 (List.getD xs 12 0 + List.getD xs 23 0))) []))) := by
  kernel_rfl

theorem nf26 (xs : List Int) (K : V → Heap → Prop) : (exF cfgM Try.f26 (mkA [23, 0] 0 xs) [] K) = (
    br (Decidable.decide (List.getD xs 23 0 < 0))
      (
      K (vi (0)) [])
      (
      br (Decidable.decide (List.getD xs 23 0 ≥ List.getD xs 2 0))
        (
        K (vi (0)) [])
        (
        K (vi (Go.IntKind.wrap Go.IntKind.i64 (List.getD xs 13 0 + List.getD xs 23 0))) []))) := by
  kernel_rfl

theorem nf28 (xs : List Int) (K : V → Heap → Prop) : (exF cfgM Try.f28 (mkA [23, 0] 0 xs) [] K) = (
    br (Decidable.decide (List.getD xs 23 0 < 0))
      (
      K (vi (0)) [])
      (
      br (Decidable.decide (List.getD xs 23 0 ≥ List.getD xs 2 0))
        (
        K (vi (0)) [])
        (
        K (vi (Go.IntKind.wrap Go.IntKind.i64 (List.getD xs 14 0 + List.getD xs 23 0))) []))) := by
  kernel_rfl

theorem nf30 (xs : List Int) (K : V → Heap → Prop) : (exF cfgM Try.f30 (mkA [23, 0] 0 xs) [] K) = (
    br (Decidable.decide (List.getD xs 23 0 < 0))
      (
      K (vi (0)) [])
      (
      br (Decidable.decide (List.getD xs 23 0 ≥ List.getD xs 2 0))
        (
        K (vi (0)) [])
        (
        K (vi (Go.IntKind.wrap Go.IntKind.i64 (List.getD xs 15 0 + List.getD xs 23 0))) []))) := by
  kernel_rfl

theorem nf32 (xs : List Int) (K : V → Heap → Prop) : (exF cfgM Try.f32 (mkA [23, 0] 0 xs) [] K) = (
    br (Decidable.decide (List.getD xs 23 0 < 0))
      (
      K (vi (0)) [])
      (
      br (Decidable.decide (List.getD xs 23 0 ≥ List.getD xs 2 0))
        (
        K (vi (0)) [])
        (
        K (vi (Go.IntKind.wrap Go.IntKind.i64 (List.getD xs 16 0 + List.getD xs 23 0))) []))) := by
  kernel_rfl

theorem nf34 (xs : List Int) (K : V → Heap → Prop) : (exF cfgM Try.f34 (mkA [23, 0] 0 xs) [] K) = (
    br (Decidable.decide (List.getD xs 23 0 < 0))
      (
      K (vi (0)) [])
      (
      br (Decidable.decide (List.getD xs 23 0 ≥ List.getD xs 2 0))
        (
        K (vi (0)) [])
        (
        K (vi (Go.IntKind.wrap Go.IntKind.i64 (List.getD xs 21 0 + Go.IntKind.wrap Go.IntKind.i64 (List.getD xs 23 0 * 32)))) []))) := by
  kernel_rfl

theorem nf37 (xs : List Int) (K : V → Heap → Prop) : (exF cfgM Try.f37 (mkA [23, 0] 0 xs) [] K) = (
    br (Decidable.decide (List.getD xs 23 0 ≥ List.getD xs 21 0))
      (
      br (!Decidable.decide (List.getD xs 23 0 < List.getD xs 22 0))
        (
        K (.tup [vi (0), vi (0), vb (Bool.false)]) [])
        (
        K (.tup [vi (Go.IntKind.wrap Go.IntKind.i64 (Int.tdiv (Go.IntKind.wrap Go.IntKind.i64 (List.getD xs 23 0 - List.getD xs 21 0)) 32)), vi (Int.tmod (Go.IntKind.wrap Go.IntKind.i64 (List.getD xs 23 0 - List.getD xs 21 0)) 32), vb (Bool.true)]) []))
      (
      K (.tup [vi (0), vi (0), vb (Bool.false)]) [])) := by
  kernel_rfl

theorem nf39 (xs : List Int) (K : V → Heap → Prop) : (exF cfgM Try.f39 (mkA [23, 0] 0 xs) [] K) = (
    br (Decidable.decide (List.getD xs 23 0 ≥ List.getD xs 21 0))
      (
      br (!Decidable.decide (List.getD xs 23 0 < List.getD xs 22 0))
        (
        K (vi (0)) [])
        (
        K (vi (Go.IntKind.wrap Go.IntKind.i64 (Go.IntKind.wrap Go.IntKind.i64 (List.getD xs 20 0 + List.getD xs 23 0) - List.getD xs 21 0))) []))
      (
      K (vi (0)) [])) := by
  kernel_rfl

theorem nf45 (xs : List Int) (K : V → Heap → Prop) : (exF cfgM Try.f45 (mkA [23, 0] 0 xs) [] K) = (
    br (List.getD xs 2 0 == 0)
      (
      K (vi (0)) [])
      (
      br (Decidable.decide (List.getD xs 23 0 < 0))
        (
        K (vi (0)) [])
        (
        br (Decidable.decide (List.getD xs 23 0 ≥ 5))
          (
          K (vi (0)) [])
          (
          K (vi (Go.IntKind.wrap Go.IntKind.i64 (List.getD xs 19 0 + Go.IntKind.wrap Go.IntKind.i64 (List.getD xs 23 0 * Go.IntKind.wrap Go.IntKind.i64 (List.getD xs 9 0 + 1))))) [])))) := by
  kernel_rfl

theorem nf22 (xs : List Int) (K : V → Heap → Prop) : (exF cfgM Try.f22 (mkA [23, 0, 0] 0 xs) [] K) = (
    br (List.getD xs 2 0 == 0)
      (
      K (vi (0)) [])
      (
      br (Decidable.decide (List.getD xs 23 0 < 0))
        (
        K (vi (0)) [])
        (
        br (Decidable.decide (List.getD xs 23 0 ≥ 5))
          (
          K (vi (0)) [])
          (
          Req (Decidable.decide (0 ≤ List.getD xs 23 0))
            (
            br (Decidable.decide (List.getD xs 24 0 < 1))
              (
              K (vi (0)) [])
              (
              br (Decidable.decide (List.getD xs 24 0 > 32 / 2 ^ Min.min (Int.toNat (List.getD xs 23 0)) (Go.IntKind.bits Go.IntKind.i64)))
                (
                K (vi (0)) [])
                (
                K (vi (Go.IntKind.wrap Go.IntKind.i64 (Go.IntKind.wrap Go.IntKind.i64 (Go.IntKind.wrap Go.IntKind.i64 (List.getD xs 17 0 + Go.IntKind.wrap Go.IntKind.i64 (64 - Go.IntKind.wrap Go.IntKind.i64 (2 * (32 / 2 ^ Min.min (Int.toNat (List.getD xs 23 0)) (Go.IntKind.bits Go.IntKind.i64))))) + List.getD xs 24 0) - 1))) []))))))) := by
  kernel_rfl

theorem nf44 (xs : List Int) (K : V → Heap → Prop) : (exF cfgM Try.f44 (mkA [23, 0, 0] 0 xs) [] K) = (
    br (List.getD xs 2 0 == 0)
      (
      K (vi (0)) [])
      (
      br (Decidable.decide (List.getD xs 24 0 < 0))
        (
        K (vi (0)) [])
        (
        br (Decidable.decide (List.getD xs 24 0 ≥ 5))
          (
          K (vi (0)) [])
          (
          br (Decidable.decide (List.getD xs 23 0 < 0))
            (
            K (vi (0)) [])
            (
            br (Decidable.decide (List.getD xs 23 0 ≥ List.getD xs 1 0))
              (
              K (vi (0)) [])
              (
              K (vi (Go.IntKind.wrap Go.IntKind.i64 (List.getD xs 18 0 + Go.IntKind.wrap Go.IntKind.i64 (Go.IntKind.wrap Go.IntKind.i64 (Go.IntKind.wrap Go.IntKind.i64 (5 * List.getD xs 23 0) + List.getD xs 24 0) * Go.IntKind.wrap Go.IntKind.i64 (List.getD xs 8 0 + 1))))) [])))))) := by
  kernel_rfl

theorem nf69 (xs : List Int) (K : V → Heap → Prop) : (exF cfgM Try.f69 (mkA [0, 0, 0] 0 xs) [] K) = (
    Req (!Go.IntKind.wrap Go.IntKind.u64 (Go.IntKind.wrap Go.IntKind.i64 (Go.IntKind.wrap Go.IntKind.i64 (List.getD xs 2 0 - List.getD xs 1 0) + 1)) == 0)
      (
      K (vi (Go.IntKind.wrap Go.IntKind.i64 (List.getD xs 1 0 + Go.IntKind.wrap Go.IntKind.i64 (Int.tmod (Go.IntKind.wrap Go.IntKind.u64 (List.getD xs 0 0)) (Go.IntKind.wrap Go.IntKind.u64 (Go.IntKind.wrap Go.IntKind.i64 (Go.IntKind.wrap Go.IntKind.i64 (List.getD xs 2 0 - List.getD xs 1 0) + 1))))))) [])) := by
  kernel_rfl

end Go.Rx
end

section
/- What the layout's functions tell, off their normal forms (by a program of this session's); their contracts. -/
namespace Go.Rx
open Go.Proofs

def v14_0 (xs : List Int) : Int := (List.getD xs 0 0)

def v14_1 (xs : List Int) : Int := (List.getD xs 1 0)

def v14_2 (xs : List Int) : Int := (List.getD xs 2 0)

def v14_3 (xs : List Int) : Int := (List.getD xs 3 0)

def v14_4 (xs : List Int) : Int := (List.getD xs 4 0)

def v14_5 (xs : List Int) : Int := (List.getD xs 5 0)

def v14_6 (xs : List Int) : Int := (List.getD xs 6 0)

def v14_7 (xs : List Int) : Int := (List.getD xs 7 0)

def v14_8 (xs : List Int) : Int := (List.getD xs 8 0)

def v14_9 (xs : List Int) : Int := (List.getD xs 9 0)

def v14_10 (xs : List Int) : Int := (List.getD xs 10 0)

def p14 (xs : List Int) : Prop := True

def s14 : Spec := fS [23] p14 (fun xs => .agg [vi (v14_0 xs), vi (v14_1 xs), vi (v14_2 xs), vi (v14_3 xs), vi (v14_4 xs), vi (v14_5 xs), vi (v14_6 xs), vi (v14_7 xs), vi (v14_8 xs), vi (v14_9 xs), vi (v14_10 xs)])

def q14 : Spec where
  tr := fun args H K => match H, shA [23] args with
    | [], some xs => p14 xs ∧ ∀ (x0 : Int) (x1 : Int) (x2 : Int) (x3 : Int) (x4 : Int) (x5 : Int) (x6 : Int) (x7 : Int) (x8 : Int) (x9 : Int) (x10 : Int), x0 = v14_0 xs → x1 = v14_1 xs → x2 = v14_2 xs → x3 = v14_3 xs → x4 = v14_4 xs → x5 = v14_5 xs → x6 = v14_6 xs → x7 = v14_7 xs → x8 = v14_8 xs → x9 = v14_9 xs → x10 = v14_10 xs → K (.agg [vi x0, vi x1, vi x2, vi x3, vi x4, vi x5, vi x6, vi x7, vi x8, vi x9, vi x10]) []
    | _, _ => False

def v15_0 (xs : List Int) : Int := (List.getD xs 22 0)

def p15 (xs : List Int) : Prop := True

def s15 : Spec := fS [23] p15 (fun xs => vi (v15_0 xs))

def q15 : Spec where
  tr := fun args H K => match H, shA [23] args with
    | [], some xs => p15 xs ∧ ∀ (x0 : Int), x0 = v15_0 xs → K (vi x0) []
    | _, _ => False

def v18_0 (xs : List Int) : Int := ((List.getD xs 2 0 + 3) / 4)

def p18 (xs : List Int) : Prop := (((( (Int.NonNeg (List.getD xs 2 0 - 0))) ∧ ( (Int.NonNeg (1099511627776 - List.getD xs 2 0))))))

def s18 : Spec := fS [23] p18 (fun xs => vi (v18_0 xs))

def q18 : Spec where
  tr := fun args H K => match H, shA [23] args with
    | [], some xs => p18 xs ∧ ∀ (x0 : Int), x0 = v18_0 xs → K (vi x0) []
    | _, _ => False

def v38_0 (xs : List Int) : Int := (List.getD xs 21 0)

def p38 (xs : List Int) : Prop := True

def s38 : Spec := fS [23] p38 (fun xs => vi (v38_0 xs))

def q38 : Spec where
  tr := fun args H K => match H, shA [23] args with
    | [], some xs => p38 xs ∧ ∀ (x0 : Int), x0 = v38_0 xs → K (vi x0) []
    | _, _ => False

def v24_0 (xs : List Int) : Int := (bif (Decidable.decide (List.getD xs 23 0 < 0)) then (0) else (bif (Decidable.decide (List.getD xs 23 0 ≥ List.getD xs 2 0)) then (0) else (Go.IntKind.wrap Go.IntKind.i64 (List.getD xs 12 0 + List.getD xs 23 0))))

def p24 (xs : List Int) : Prop := True

def s24 : Spec := fS [23, 0] p24 (fun xs => vi (v24_0 xs))

def q24 : Spec where
  tr := fun args H K => match H, shA [23, 0] args with
    | [], some xs => p24 xs ∧ ∀ (x0 : Int), x0 = v24_0 xs → K (vi x0) []
    | _, _ => False

def v26_0 (xs : List Int) : Int := (bif (Decidable.decide (List.getD xs 23 0 < 0)) then (0) else (bif (Decidable.decide (List.getD xs 23 0 ≥ List.getD xs 2 0)) then (0) else (Go.IntKind.wrap Go.IntKind.i64 (List.getD xs 13 0 + List.getD xs 23 0))))

def p26 (xs : List Int) : Prop := True

def s26 : Spec := fS [23, 0] p26 (fun xs => vi (v26_0 xs))

def q26 : Spec where
  tr := fun args H K => match H, shA [23, 0] args with
    | [], some xs => p26 xs ∧ ∀ (x0 : Int), x0 = v26_0 xs → K (vi x0) []
    | _, _ => False

def v28_0 (xs : List Int) : Int := (bif (Decidable.decide (List.getD xs 23 0 < 0)) then (0) else (bif (Decidable.decide (List.getD xs 23 0 ≥ List.getD xs 2 0)) then (0) else (Go.IntKind.wrap Go.IntKind.i64 (List.getD xs 14 0 + List.getD xs 23 0))))

def p28 (xs : List Int) : Prop := True

def s28 : Spec := fS [23, 0] p28 (fun xs => vi (v28_0 xs))

def q28 : Spec where
  tr := fun args H K => match H, shA [23, 0] args with
    | [], some xs => p28 xs ∧ ∀ (x0 : Int), x0 = v28_0 xs → K (vi x0) []
    | _, _ => False

def v30_0 (xs : List Int) : Int := (bif (Decidable.decide (List.getD xs 23 0 < 0)) then (0) else (bif (Decidable.decide (List.getD xs 23 0 ≥ List.getD xs 2 0)) then (0) else (Go.IntKind.wrap Go.IntKind.i64 (List.getD xs 15 0 + List.getD xs 23 0))))

def p30 (xs : List Int) : Prop := True

def s30 : Spec := fS [23, 0] p30 (fun xs => vi (v30_0 xs))

def q30 : Spec where
  tr := fun args H K => match H, shA [23, 0] args with
    | [], some xs => p30 xs ∧ ∀ (x0 : Int), x0 = v30_0 xs → K (vi x0) []
    | _, _ => False

def v32_0 (xs : List Int) : Int := (bif (Decidable.decide (List.getD xs 23 0 < 0)) then (0) else (bif (Decidable.decide (List.getD xs 23 0 ≥ List.getD xs 2 0)) then (0) else (Go.IntKind.wrap Go.IntKind.i64 (List.getD xs 16 0 + List.getD xs 23 0))))

def p32 (xs : List Int) : Prop := True

def s32 : Spec := fS [23, 0] p32 (fun xs => vi (v32_0 xs))

def q32 : Spec where
  tr := fun args H K => match H, shA [23, 0] args with
    | [], some xs => p32 xs ∧ ∀ (x0 : Int), x0 = v32_0 xs → K (vi x0) []
    | _, _ => False

def v34_0 (xs : List Int) : Int := (bif (Decidable.decide (List.getD xs 23 0 < 0)) then (0) else (bif (Decidable.decide (List.getD xs 23 0 ≥ List.getD xs 2 0)) then (0) else (Go.IntKind.wrap Go.IntKind.i64 (List.getD xs 21 0 + Go.IntKind.wrap Go.IntKind.i64 (List.getD xs 23 0 * 32)))))

def p34 (xs : List Int) : Prop := True

def s34 : Spec := fS [23, 0] p34 (fun xs => vi (v34_0 xs))

def q34 : Spec where
  tr := fun args H K => match H, shA [23, 0] args with
    | [], some xs => p34 xs ∧ ∀ (x0 : Int), x0 = v34_0 xs → K (vi x0) []
    | _, _ => False

def v37_0 (xs : List Int) : Int := (bif (Decidable.decide (List.getD xs 23 0 ≥ List.getD xs 21 0)) then (bif (!Decidable.decide (List.getD xs 23 0 < List.getD xs 22 0)) then (0) else (Go.IntKind.wrap Go.IntKind.i64 (Int.tdiv (Go.IntKind.wrap Go.IntKind.i64 (List.getD xs 23 0 - List.getD xs 21 0)) 32))) else (0))

def v37_1 (xs : List Int) : Int := (bif (Decidable.decide (List.getD xs 23 0 ≥ List.getD xs 21 0)) then (bif (!Decidable.decide (List.getD xs 23 0 < List.getD xs 22 0)) then (0) else (Int.tmod (Go.IntKind.wrap Go.IntKind.i64 (List.getD xs 23 0 - List.getD xs 21 0)) 32)) else (0))

def v37_2 (xs : List Int) : Bool := (bif (Decidable.decide (List.getD xs 23 0 ≥ List.getD xs 21 0)) then (bif (!Decidable.decide (List.getD xs 23 0 < List.getD xs 22 0)) then (Bool.false) else (Bool.true)) else (Bool.false))

def p37 (xs : List Int) : Prop := True

def s37 : Spec := fS [23, 0] p37 (fun xs => .tup [vi (v37_0 xs), vi (v37_1 xs), vb (v37_2 xs)])

def q37 : Spec where
  tr := fun args H K => match H, shA [23, 0] args with
    | [], some xs => p37 xs ∧ ∀ (x0 : Int) (x1 : Int) (x2 : Bool), x0 = v37_0 xs → x1 = v37_1 xs → x2 = v37_2 xs → K (.tup [vi x0, vi x1, vb x2]) []
    | _, _ => False

def v39_0 (xs : List Int) : Int := (bif (Decidable.decide (List.getD xs 23 0 ≥ List.getD xs 21 0)) then (bif (!Decidable.decide (List.getD xs 23 0 < List.getD xs 22 0)) then (0) else (Go.IntKind.wrap Go.IntKind.i64 (Go.IntKind.wrap Go.IntKind.i64 (List.getD xs 20 0 + List.getD xs 23 0) - List.getD xs 21 0))) else (0))

def p39 (xs : List Int) : Prop := True

def s39 : Spec := fS [23, 0] p39 (fun xs => vi (v39_0 xs))

def q39 : Spec where
  tr := fun args H K => match H, shA [23, 0] args with
    | [], some xs => p39 xs ∧ ∀ (x0 : Int), x0 = v39_0 xs → K (vi x0) []
    | _, _ => False

def v45_0 (xs : List Int) : Int := (bif (List.getD xs 2 0 == 0) then (0) else (bif (Decidable.decide (List.getD xs 23 0 < 0)) then (0) else (bif (Decidable.decide (List.getD xs 23 0 ≥ 5)) then (0) else (Go.IntKind.wrap Go.IntKind.i64 (List.getD xs 19 0 + Go.IntKind.wrap Go.IntKind.i64 (List.getD xs 23 0 * Go.IntKind.wrap Go.IntKind.i64 (List.getD xs 9 0 + 1)))))))

def p45 (xs : List Int) : Prop := True

def s45 : Spec := fS [23, 0] p45 (fun xs => vi (v45_0 xs))

def q45 : Spec where
  tr := fun args H K => match H, shA [23, 0] args with
    | [], some xs => p45 xs ∧ ∀ (x0 : Int), x0 = v45_0 xs → K (vi x0) []
    | _, _ => False

def v22_0 (xs : List Int) : Int := (bif (List.getD xs 2 0 == 0) then (0) else (bif (Decidable.decide (List.getD xs 23 0 < 0)) then (0) else (bif (Decidable.decide (List.getD xs 23 0 ≥ 5)) then (0) else (bif (Decidable.decide (List.getD xs 24 0 < 1)) then (0) else (bif (Decidable.decide (List.getD xs 24 0 > 32 / 2 ^ Min.min (Int.toNat (List.getD xs 23 0)) (Go.IntKind.bits Go.IntKind.i64))) then (0) else (Go.IntKind.wrap Go.IntKind.i64 (Go.IntKind.wrap Go.IntKind.i64 (Go.IntKind.wrap Go.IntKind.i64 (List.getD xs 17 0 + Go.IntKind.wrap Go.IntKind.i64 (64 - Go.IntKind.wrap Go.IntKind.i64 (2 * (32 / 2 ^ Min.min (Int.toNat (List.getD xs 23 0)) (Go.IntKind.bits Go.IntKind.i64))))) + List.getD xs 24 0) - 1)))))))

def p22 (xs : List Int) : Prop := (((List.getD xs 2 0 == 0) = false → (((Decidable.decide (List.getD xs 23 0 < 0)) = false → (((Decidable.decide (List.getD xs 23 0 ≥ 5)) = false → ((Decidable.decide (0 ≤ List.getD xs 23 0)) = true)))))))

def s22 : Spec := fS [23, 0, 0] p22 (fun xs => vi (v22_0 xs))

def q22 : Spec where
  tr := fun args H K => match H, shA [23, 0, 0] args with
    | [], some xs => p22 xs ∧ ∀ (x0 : Int), x0 = v22_0 xs → K (vi x0) []
    | _, _ => False

def v44_0 (xs : List Int) : Int := (bif (List.getD xs 2 0 == 0) then (0) else (bif (Decidable.decide (List.getD xs 24 0 < 0)) then (0) else (bif (Decidable.decide (List.getD xs 24 0 ≥ 5)) then (0) else (bif (Decidable.decide (List.getD xs 23 0 < 0)) then (0) else (bif (Decidable.decide (List.getD xs 23 0 ≥ List.getD xs 1 0)) then (0) else (Go.IntKind.wrap Go.IntKind.i64 (List.getD xs 18 0 + Go.IntKind.wrap Go.IntKind.i64 (Go.IntKind.wrap Go.IntKind.i64 (Go.IntKind.wrap Go.IntKind.i64 (5 * List.getD xs 23 0) + List.getD xs 24 0) * Go.IntKind.wrap Go.IntKind.i64 (List.getD xs 8 0 + 1)))))))))

def p44 (xs : List Int) : Prop := True

def s44 : Spec := fS [23, 0, 0] p44 (fun xs => vi (v44_0 xs))

def q44 : Spec where
  tr := fun args H K => match H, shA [23, 0, 0] args with
    | [], some xs => p44 xs ∧ ∀ (x0 : Int), x0 = v44_0 xs → K (vi x0) []
    | _, _ => False

def v69_0 (xs : List Int) : Int := (Go.IntKind.wrap Go.IntKind.i64 (List.getD xs 1 0 + Go.IntKind.wrap Go.IntKind.i64 (Int.tmod (Go.IntKind.wrap Go.IntKind.u64 (List.getD xs 0 0)) (Go.IntKind.wrap Go.IntKind.u64 (Go.IntKind.wrap Go.IntKind.i64 (Go.IntKind.wrap Go.IntKind.i64 (List.getD xs 2 0 - List.getD xs 1 0) + 1))))))

def p69 (xs : List Int) : Prop := ((!Go.IntKind.wrap Go.IntKind.u64 (Go.IntKind.wrap Go.IntKind.i64 (Go.IntKind.wrap Go.IntKind.i64 (List.getD xs 2 0 - List.getD xs 1 0) + 1)) == 0) = true)

def s69 : Spec := fS [0, 0, 0] p69 (fun xs => vi (v69_0 xs))

def q69 : Spec where
  tr := fun args H K => match H, shA [0, 0, 0] args with
    | [], some xs => p69 xs ∧ ∀ (x0 : Int), x0 = v69_0 xs → K (vi x0) []
    | _, _ => False



attribute [local irreducible] Loop ex exF contK roundK retK at_ bodyOf mkEnv mkA

theorem sigM_ok : ∀ g s, sigM g = some s → SpecOK Try.prog elTT g s := by
  intro g s hs
  unfold sigM at hs
  split at hs
  · injection hs with hs; subst hs; exact chunks_ok
  · injection hs with hs; subst hs; exact inl_ok (cfg := cfgB) (cfg_ok rfl rfl rfl) (nosig rfl) (fn := Try.f70) (by kernel_rfl) (by kernel_rfl) (by kernel_rfl)
  · injection hs with hs; subst hs; exact inl_ok (cfg := cfgB) (cfg_ok rfl rfl rfl) (nosig rfl) (fn := Try.f73) (by kernel_rfl) (by kernel_rfl) (by kernel_rfl)
  · injection hs with hs; subst hs; exact inl_ok (cfg := cfgB) (cfg_ok rfl rfl rfl) (nosig rfl) (fn := Try.f77) (by kernel_rfl) (by kernel_rfl) (by kernel_rfl)
  · injection hs with hs; subst hs; exact inl_ok (cfg := cfgB) (cfg_ok rfl rfl rfl) (nosig rfl) (fn := Try.f71) (by kernel_rfl) (by kernel_rfl) (by kernel_rfl)
  · injection hs with hs; subst hs; exact inl_ok (cfg := cfgB) (cfg_ok rfl rfl rfl) (nosig rfl) (fn := Try.f72) (by kernel_rfl) (by kernel_rfl) (by kernel_rfl)
  · injection hs with hs; subst hs; exact inl_ok (cfg := cfgB) (cfg_ok rfl rfl rfl) (nosig rfl) (fn := Try.f69) (by kernel_rfl) (by kernel_rfl) (by kernel_rfl)
  · cases hs

theorem ok14 : SpecOK Try.prog elTT 14 s14 :=
  fS_ok (cfg := cfgM) (cfg_ok rfl rfl rfl) sigM_ok (fn := Try.f14) (by kernel_rfl) (by kernel_rfl) (by kernel_rfl) fun xs K hp hk => Eq.mpr (nf14 xs K) (by simpa only [v14_0, v14_1, v14_2, v14_3, v14_4, v14_5, v14_6, v14_7, v14_8, v14_9, v14_10, cond_true, cond_false] using hk)

theorem okq14 : SpecOK Try.prog elTT 14 q14 :=
  spec_mono (fun args H K h => by
    unfold q14 at h
    simp only at h
    split at h
    · rename_i xs hxs
      unfold s14 fS
      simp only [hxs]
      exact ⟨h.1, h.2 _ _ _ _ _ _ _ _ _ _ _ rfl rfl rfl rfl rfl rfl rfl rfl rfl rfl rfl⟩
    · exact h.elim) ok14

theorem ok15 : SpecOK Try.prog elTT 15 s15 :=
  fS_ok (cfg := cfgM) (cfg_ok rfl rfl rfl) sigM_ok (fn := Try.f15) (by kernel_rfl) (by kernel_rfl) (by kernel_rfl) fun xs K hp hk => Eq.mpr (nf15 xs K) (by simpa only [v15_0, cond_true, cond_false] using hk)

theorem okq15 : SpecOK Try.prog elTT 15 q15 :=
  spec_mono (fun args H K h => by
    unfold q15 at h
    simp only at h
    split at h
    · rename_i xs hxs
      unfold s15 fS
      simp only [hxs]
      exact ⟨h.1, h.2 _ rfl⟩
    · exact h.elim) ok15

theorem ok18 : SpecOK Try.prog elTT 18 s18 :=
  fS_ok (cfg := cfgM) (cfg_ok rfl rfl rfl) sigM_ok (fn := Try.f18) (by kernel_rfl) (by kernel_rfl) (by kernel_rfl) fun xs K hp hk => Eq.mpr (nf18 xs K) (⟨hp, by simpa only [v18_0, cond_true, cond_false] using hk⟩)

theorem okq18 : SpecOK Try.prog elTT 18 q18 :=
  spec_mono (fun args H K h => by
    unfold q18 at h
    simp only at h
    split at h
    · rename_i xs hxs
      unfold s18 fS
      simp only [hxs]
      exact ⟨h.1, h.2 _ rfl⟩
    · exact h.elim) ok18

theorem ok38 : SpecOK Try.prog elTT 38 s38 :=
  fS_ok (cfg := cfgM) (cfg_ok rfl rfl rfl) sigM_ok (fn := Try.f38) (by kernel_rfl) (by kernel_rfl) (by kernel_rfl) fun xs K hp hk => Eq.mpr (nf38 xs K) (by simpa only [v38_0, cond_true, cond_false] using hk)

theorem okq38 : SpecOK Try.prog elTT 38 q38 :=
  spec_mono (fun args H K h => by
    unfold q38 at h
    simp only at h
    split at h
    · rename_i xs hxs
      unfold s38 fS
      simp only [hxs]
      exact ⟨h.1, h.2 _ rfl⟩
    · exact h.elim) ok38

theorem ok24 : SpecOK Try.prog elTT 24 s24 :=
  fS_ok (cfg := cfgM) (cfg_ok rfl rfl rfl) sigM_ok (fn := Try.f24) (by kernel_rfl) (by kernel_rfl) (by kernel_rfl) fun xs K hp hk => Eq.mpr (nf24 xs K) (br_intro (fun h0 => by simpa only [v24_0, h0, cond_true, cond_false] using hk) (fun h0 => br_intro (fun h1 => by simpa only [v24_0, h0, h1, cond_true, cond_false] using hk) (fun h1 => by simpa only [v24_0, h0, h1, cond_true, cond_false] using hk)))

theorem okq24 : SpecOK Try.prog elTT 24 q24 :=
  spec_mono (fun args H K h => by
    unfold q24 at h
    simp only at h
    split at h
    · rename_i xs hxs
      unfold s24 fS
      simp only [hxs]
      exact ⟨h.1, h.2 _ rfl⟩
    · exact h.elim) ok24

theorem ok26 : SpecOK Try.prog elTT 26 s26 :=
  fS_ok (cfg := cfgM) (cfg_ok rfl rfl rfl) sigM_ok (fn := Try.f26) (by kernel_rfl) (by kernel_rfl) (by kernel_rfl) fun xs K hp hk => Eq.mpr (nf26 xs K) (br_intro (fun h0 => by simpa only [v26_0, h0, cond_true, cond_false] using hk) (fun h0 => br_intro (fun h1 => by simpa only [v26_0, h0, h1, cond_true, cond_false] using hk) (fun h1 => by simpa only [v26_0, h0, h1, cond_true, cond_false] using hk)))

theorem okq26 : SpecOK Try.prog elTT 26 q26 :=
  spec_mono (fun args H K h => by
    unfold q26 at h
    simp only at h
    split at h
    · rename_i xs hxs
      unfold s26 fS
      simp only [hxs]
      exact ⟨h.1, h.2 _ rfl⟩
    · exact h.elim) ok26

theorem ok28 : SpecOK Try.prog elTT 28 s28 :=
  fS_ok (cfg := cfgM) (cfg_ok rfl rfl rfl) sigM_ok (fn := Try.f28) (by kernel_rfl) (by kernel_rfl) (by kernel_rfl) fun xs K hp hk => Eq.mpr (nf28 xs K) (br_intro (fun h0 => by simpa only [v28_0, h0, cond_true, cond_false] using hk) (fun h0 => br_intro (fun h1 => by simpa only [v28_0, h0, h1, cond_true, cond_false] using hk) (fun h1 => by simpa only [v28_0, h0, h1, cond_true, cond_false] using hk)))

theorem okq28 : SpecOK Try.prog elTT 28 q28 :=
  spec_mono (fun args H K h => by
    unfold q28 at h
    simp only at h
    split at h
    · rename_i xs hxs
      unfold s28 fS
      simp only [hxs]
      exact ⟨h.1, h.2 _ rfl⟩
    · exact h.elim) ok28

theorem ok30 : SpecOK Try.prog elTT 30 s30 :=
  fS_ok (cfg := cfgM) (cfg_ok rfl rfl rfl) sigM_ok (fn := Try.f30) (by kernel_rfl) (by kernel_rfl) (by kernel_rfl) fun xs K hp hk => Eq.mpr (nf30 xs K) (br_intro (fun h0 => by simpa only [v30_0, h0, cond_true, cond_false] using hk) (fun h0 => br_intro (fun h1 => by simpa only [v30_0, h0, h1, cond_true, cond_false] using hk) (fun h1 => by simpa only [v30_0, h0, h1, cond_true, cond_false] using hk)))

theorem okq30 : SpecOK Try.prog elTT 30 q30 :=
  spec_mono (fun args H K h => by
    unfold q30 at h
    simp only at h
    split at h
    · rename_i xs hxs
      unfold s30 fS
      simp only [hxs]
      exact ⟨h.1, h.2 _ rfl⟩
    · exact h.elim) ok30

theorem ok32 : SpecOK Try.prog elTT 32 s32 :=
  fS_ok (cfg := cfgM) (cfg_ok rfl rfl rfl) sigM_ok (fn := Try.f32) (by kernel_rfl) (by kernel_rfl) (by kernel_rfl) fun xs K hp hk => Eq.mpr (nf32 xs K) (br_intro (fun h0 => by simpa only [v32_0, h0, cond_true, cond_false] using hk) (fun h0 => br_intro (fun h1 => by simpa only [v32_0, h0, h1, cond_true, cond_false] using hk) (fun h1 => by simpa only [v32_0, h0, h1, cond_true, cond_false] using hk)))

theorem okq32 : SpecOK Try.prog elTT 32 q32 :=
  spec_mono (fun args H K h => by
    unfold q32 at h
    simp only at h
    split at h
    · rename_i xs hxs
      unfold s32 fS
      simp only [hxs]
      exact ⟨h.1, h.2 _ rfl⟩
    · exact h.elim) ok32

theorem ok34 : SpecOK Try.prog elTT 34 s34 :=
  fS_ok (cfg := cfgM) (cfg_ok rfl rfl rfl) sigM_ok (fn := Try.f34) (by kernel_rfl) (by kernel_rfl) (by kernel_rfl) fun xs K hp hk => Eq.mpr (nf34 xs K) (br_intro (fun h0 => by simpa only [v34_0, h0, cond_true, cond_false] using hk) (fun h0 => br_intro (fun h1 => by simpa only [v34_0, h0, h1, cond_true, cond_false] using hk) (fun h1 => by simpa only [v34_0, h0, h1, cond_true, cond_false] using hk)))

theorem okq34 : SpecOK Try.prog elTT 34 q34 :=
  spec_mono (fun args H K h => by
    unfold q34 at h
    simp only at h
    split at h
    · rename_i xs hxs
      unfold s34 fS
      simp only [hxs]
      exact ⟨h.1, h.2 _ rfl⟩
    · exact h.elim) ok34

theorem ok37 : SpecOK Try.prog elTT 37 s37 :=
  fS_ok (cfg := cfgM) (cfg_ok rfl rfl rfl) sigM_ok (fn := Try.f37) (by kernel_rfl) (by kernel_rfl) (by kernel_rfl) fun xs K hp hk => Eq.mpr (nf37 xs K) (br_intro (fun h0 => br_intro (fun h1 => by simpa only [v37_0, v37_1, v37_2, h0, h1, cond_true, cond_false] using hk) (fun h1 => by simpa only [v37_0, v37_1, v37_2, h0, h1, cond_true, cond_false] using hk)) (fun h0 => by simpa only [v37_0, v37_1, v37_2, h0, cond_true, cond_false] using hk))

theorem okq37 : SpecOK Try.prog elTT 37 q37 :=
  spec_mono (fun args H K h => by
    unfold q37 at h
    simp only at h
    split at h
    · rename_i xs hxs
      unfold s37 fS
      simp only [hxs]
      exact ⟨h.1, h.2 _ _ _ rfl rfl rfl⟩
    · exact h.elim) ok37

theorem ok39 : SpecOK Try.prog elTT 39 s39 :=
  fS_ok (cfg := cfgM) (cfg_ok rfl rfl rfl) sigM_ok (fn := Try.f39) (by kernel_rfl) (by kernel_rfl) (by kernel_rfl) fun xs K hp hk => Eq.mpr (nf39 xs K) (br_intro (fun h0 => br_intro (fun h1 => by simpa only [v39_0, h0, h1, cond_true, cond_false] using hk) (fun h1 => by simpa only [v39_0, h0, h1, cond_true, cond_false] using hk)) (fun h0 => by simpa only [v39_0, h0, cond_true, cond_false] using hk))

theorem okq39 : SpecOK Try.prog elTT 39 q39 :=
  spec_mono (fun args H K h => by
    unfold q39 at h
    simp only at h
    split at h
    · rename_i xs hxs
      unfold s39 fS
      simp only [hxs]
      exact ⟨h.1, h.2 _ rfl⟩
    · exact h.elim) ok39

theorem ok45 : SpecOK Try.prog elTT 45 s45 :=
  fS_ok (cfg := cfgM) (cfg_ok rfl rfl rfl) sigM_ok (fn := Try.f45) (by kernel_rfl) (by kernel_rfl) (by kernel_rfl) fun xs K hp hk => Eq.mpr (nf45 xs K) (br_intro (fun h0 => by simpa only [v45_0, h0, cond_true, cond_false] using hk) (fun h0 => br_intro (fun h1 => by simpa only [v45_0, h0, h1, cond_true, cond_false] using hk) (fun h1 => br_intro (fun h2 => by simpa only [v45_0, h0, h1, h2, cond_true, cond_false] using hk) (fun h2 => by simpa only [v45_0, h0, h1, h2, cond_true, cond_false] using hk))))

theorem okq45 : SpecOK Try.prog elTT 45 q45 :=
  spec_mono (fun args H K h => by
    unfold q45 at h
    simp only at h
    split at h
    · rename_i xs hxs
      unfold s45 fS
      simp only [hxs]
      exact ⟨h.1, h.2 _ rfl⟩
    · exact h.elim) ok45

theorem ok22 : SpecOK Try.prog elTT 22 s22 :=
  fS_ok (cfg := cfgM) (cfg_ok rfl rfl rfl) sigM_ok (fn := Try.f22) (by kernel_rfl) (by kernel_rfl) (by kernel_rfl) fun xs K hp hk => Eq.mpr (nf22 xs K) (br_intro (fun h0 => by simpa only [v22_0, h0, cond_true, cond_false] using hk) (fun h0 => br_intro (fun h1 => by simpa only [v22_0, h0, h1, cond_true, cond_false] using hk) (fun h1 => br_intro (fun h2 => by simpa only [v22_0, h0, h1, h2, cond_true, cond_false] using hk) (fun h2 => Req_intro (((hp h0) h1) h2) (br_intro (fun h3 => by simpa only [v22_0, h0, h1, h2, h3, cond_true, cond_false] using hk) (fun h3 => br_intro (fun h4 => by simpa only [v22_0, h0, h1, h2, h3, h4, cond_true, cond_false] using hk) (fun h4 => by simpa only [v22_0, h0, h1, h2, h3, h4, cond_true, cond_false] using hk)))))))

theorem okq22 : SpecOK Try.prog elTT 22 q22 :=
  spec_mono (fun args H K h => by
    unfold q22 at h
    simp only at h
    split at h
    · rename_i xs hxs
      unfold s22 fS
      simp only [hxs]
      exact ⟨h.1, h.2 _ rfl⟩
    · exact h.elim) ok22

theorem ok44 : SpecOK Try.prog elTT 44 s44 :=
  fS_ok (cfg := cfgM) (cfg_ok rfl rfl rfl) sigM_ok (fn := Try.f44) (by kernel_rfl) (by kernel_rfl) (by kernel_rfl) fun xs K hp hk => Eq.mpr (nf44 xs K) (br_intro (fun h0 => by simpa only [v44_0, h0, cond_true, cond_false] using hk) (fun h0 => br_intro (fun h1 => by simpa only [v44_0, h0, h1, cond_true, cond_false] using hk) (fun h1 => br_intro (fun h2 => by simpa only [v44_0, h0, h1, h2, cond_true, cond_false] using hk) (fun h2 => br_intro (fun h3 => by simpa only [v44_0, h0, h1, h2, h3, cond_true, cond_false] using hk) (fun h3 => br_intro (fun h4 => by simpa only [v44_0, h0, h1, h2, h3, h4, cond_true, cond_false] using hk) (fun h4 => by simpa only [v44_0, h0, h1, h2, h3, h4, cond_true, cond_false] using hk))))))

theorem okq44 : SpecOK Try.prog elTT 44 q44 :=
  spec_mono (fun args H K h => by
    unfold q44 at h
    simp only at h
    split at h
    · rename_i xs hxs
      unfold s44 fS
      simp only [hxs]
      exact ⟨h.1, h.2 _ rfl⟩
    · exact h.elim) ok44

theorem ok69 : SpecOK Try.prog elTT 69 s69 :=
  fS_ok (cfg := cfgM) (cfg_ok rfl rfl rfl) sigM_ok (fn := Try.f69) (by kernel_rfl) (by kernel_rfl) (by kernel_rfl) fun xs K hp hk => Eq.mpr (nf69 xs K) (Req_intro hp (by simpa only [v69_0, cond_true, cond_false] using hk))

theorem okq69 : SpecOK Try.prog elTT 69 q69 :=
  spec_mono (fun args H K h => by
    unfold q69 at h
    simp only at h
    split at h
    · rename_i xs hxs
      unfold s69 fS
      simp only [hxs]
      exact ⟨h.1, h.2 _ rfl⟩
    · exact h.elim) ok69

end Go.Rx
end

section
namespace Go.Rx
open Go.Proofs

def planOf : Nat → Nat → Option (List Nat × Nat)
  | 3, 5 => some ([0, 1, 2, 3, 4, 5, 6, 7, 9, 8, 10, 11, 12, 13, 14, 15], 0)
  | 4, 4 => some ([0, 1, 2, 3, 5, 4, 6, 7, 8, 9, 10, 11, 13, 14, 12, 15, 16, 17, 18, 19, 20, 21, 23, 24, 25, 22, 26, 27, 28], 0)
  | 4, 6 => some ([0, 1, 3, 4, 2, 5, 6, 7, 8, 9, 11, 12, 10, 13, 14, 15, 16, 17, 18, 20, 21, 19, 22, 23, 24, 25, 26, 27, 29, 30, 28, 31, 32, 33, 34, 35, 36, 38, 39, 37, 40, 41, 42, 43, 44, 45, 47, 48, 46, 49, 50, 51, 52, 53, 54, 55], 0)
  | 6, 9 => some ([0, 1, 2, 3, 4, 5, 6, 7, 8, 9, 10, 11, 12, 13, 14, 15, 17, 18, 20, 16, 19, 21, 22, 23, 24, 25, 26, 27, 28, 29, 30, 31, 32, 33, 34, 35], 0)
  | 7, 6 => some ([0, 1, 2, 3, 5, 4, 6, 7, 8, 9, 10, 12, 11, 13, 14, 15, 16, 17, 18, 19, 20, 21, 22, 23, 24, 25, 26, 27, 28, 29, 30], 0)
  | 7, 10 => some ([0, 1, 2, 4, 7, 10, 11, 14, 15, 18, 19, 22, 23, 26, 27, 28, 31, 32, 35, 36, 39, 40, 3, 5, 6, 8, 9, 12, 13, 16, 17, 20, 21, 24, 25, 29, 30, 33, 34, 37, 38, 41, 42, 43, 44], 0)
  | 7, 12 => some ([0, 1, 3, 4, 2, 5, 6, 7, 8, 9, 10, 12, 13, 14, 11, 15, 16, 17, 18, 19, 20, 22, 23, 21, 24, 25, 26, 27, 28, 29, 31, 32, 30, 33, 34, 35, 36, 37, 38, 39], 0)
  | 17, 1 => some ([0, 1, 3, 4, 6, 7, 9, 10, 12, 13, 15, 16, 18, 19, 21, 22, 24, 25, 27, 28, 30, 31, 2, 5, 8, 11, 14, 17, 20, 23, 26, 29, 32, 33, 34], 0)
  | 20, 1 => some (List.range 6, 0)
  | 21, 1 => some ([0, 1, 2, 3, 4, 8, 10, 5, 6, 7, 9, 11, 12, 13], 0)
  | 23, 8 => some ([0, 1, 2, 3, 4, 8, 10, 12, 5, 6, 7, 9, 11, 13, 14, 15, 16], 0)
  | 35, 1 => some ([0, 1, 2, 3, 4, 5, 6, 7, 8, 9, 11, 12, 10, 13, 14, 15], 0)
  | 36, 14 => some ([0, 1, 2, 4, 5, 7, 8, 10, 11, 13, 14, 3, 6, 9, 12, 15, 16, 17, 18], 0)
  | 41, 1 => some ([0, 2, 3, 4, 5, 1, 6, 7], 0)
  | 42, 1 => some ([0, 2, 3, 4, 5, 1, 6, 7, 8, 9, 10], 0)
  | 47, 1 => some ([0, 1, 2, 3, 4, 5, 6, 7, 8, 9, 10, 11, 12, 13, 14, 15, 16, 17, 19, 20, 21, 22, 23, 24, 25, 26, 27, 18, 28, 29, 30], 0)
  | 48, 1 => some ([0, 1, 2, 3, 4, 5, 6, 8, 9, 10, 11, 12, 13, 7, 14, 15, 16], 0)
  | 49, 1 => some ([0, 1, 10, 12, 14, 2, 3, 4, 5, 6, 7, 8, 9, 11, 13, 15, 16, 17, 18], 0)
  | 75, 1 => some ([0, 2, 5, 6, 7, 8, 1, 3, 4, 9, 10], 0)
  | 76, 1 => some ([0, 1, 2, 3, 4, 5, 6, 7, 8, 9, 11, 14, 15, 16, 17, 18, 20, 10, 12, 13, 19, 21, 22, 23], 0)
  | 78, 1 => some ([0, 2, 3, 4, 5, 6, 1, 7, 8], 0)
  | 80, 1 => some ([0, 2, 3, 4, 5, 6, 7, 8, 9, 10, 1, 11, 12], 0)
  | _, _ => none

noncomputable def sig20 : FuncId → Option Spec := fun f => match f with
  | 18 => some s18
  | 70 => some (inl cfgB Try.f70)
  | _ => none
noncomputable def cfg20 : Cfg := { cfgB with sigs := sig20, plan := planOf 20 }
noncomputable def cfg17 : Cfg := { cfgB with sigs := sigM, plan := fun r => (planOf 17 r).map (fun p => (p.1, 3)), flag := fun d => Nat.beq d 2 }
end Go.Rx
end

section
/- Normal forms of the program's code (by a program of this session's; the kernel checks each). -/
namespace Go.Rx
open Go.Proofs
set_option maxRecDepth 100000
theorem nf20 (xs : List Int) (K : V → Heap → Prop) : (exF cfg20 Try.f20 (mkA [23, 0] 0 xs) [] K) = (
    ((
      ((
        (Int.NonNeg (List.getD xs 2 0 - 0))) ∧ (
        (Int.NonNeg (1099511627776 - List.getD xs 2 0))))) ∧ (
      br (Decidable.decide (List.getD xs 23 0 < 0))
        (
        K (vi (0)) [])
        (
        br (Decidable.decide (List.getD xs 23 0 ≥ Go.Rx.v18_0 [List.getD xs 0 0, List.getD xs 1 0, List.getD xs 2 0, List.getD xs 3 0, List.getD xs 4 0, List.getD xs 5 0, List.getD xs 6 0, List.getD xs 7 0, List.getD xs 8 0, List.getD xs 9 0, List.getD xs 10 0, List.getD xs 11 0, List.getD xs 12 0, List.getD xs 13 0, List.getD xs 14 0, List.getD xs 15 0, List.getD xs 16 0, List.getD xs 17 0, List.getD xs 18 0, List.getD xs 19 0, List.getD xs 20 0, List.getD xs 21 0, List.getD xs 22 0]))
          (
          K (vi (0)) [])
          (
          K (vi (Go.IntKind.wrap Go.IntKind.i64 (List.getD xs 11 0 + List.getD xs 23 0))) []))))) := by
  kernel_rfl

theorem nf17 (xs : List Int) (K : V → Heap → Prop) : (exF cfg17 Try.f17 (mkA [11] 0 xs) [] K) = (
    K (.agg [vi (Go.IntKind.wrap Go.IntKind.i64 (1 + Go.IntKind.wrap Go.IntKind.i64 (Int.tmod (Go.IntKind.wrap Go.IntKind.u64 (List.getD xs 0 0)) (Go.IntKind.wrap Go.IntKind.u64 (Go.IntKind.wrap Go.IntKind.i64 (Go.IntKind.wrap Go.IntKind.i64 (64 - 1) + 1)))))), vi (Go.IntKind.wrap Go.IntKind.i64 (1 + Go.IntKind.wrap Go.IntKind.i64 (Int.tmod (Go.IntKind.wrap Go.IntKind.u64 (List.getD xs 1 0)) (Go.IntKind.wrap Go.IntKind.u64 (Go.IntKind.wrap Go.IntKind.i64 (Go.IntKind.wrap Go.IntKind.i64 (8 - 1) + 1)))))), vi (Go.IntKind.wrap Go.IntKind.i64 (1 + Go.IntKind.wrap Go.IntKind.i64 (Int.tmod (Go.IntKind.wrap Go.IntKind.u64 (List.getD xs 2 0)) (Go.IntKind.wrap Go.IntKind.u64 (Go.IntKind.wrap Go.IntKind.i64 (Go.IntKind.wrap Go.IntKind.i64 (256 - 1) + 1)))))), vi (Go.IntKind.wrap Go.IntKind.i64 (1 + Go.IntKind.wrap Go.IntKind.i64 (Int.tmod (Go.IntKind.wrap Go.IntKind.u64 (List.getD xs 3 0)) (Go.IntKind.wrap Go.IntKind.u64 (Go.IntKind.wrap Go.IntKind.i64 (Go.IntKind.wrap Go.IntKind.i64 (64 - 1) + 1)))))), vi (Go.IntKind.wrap Go.IntKind.i64 (0 + Go.IntKind.wrap Go.IntKind.i64 (Int.tmod (Go.IntKind.wrap Go.IntKind.u64 (List.getD xs 4 0)) (Go.IntKind.wrap Go.IntKind.u64 (Go.IntKind.wrap Go.IntKind.i64 (Go.IntKind.wrap Go.IntKind.i64 (16 - 0) + 1)))))), vi (Go.IntKind.wrap Go.IntKind.i64 (0 + Go.IntKind.wrap Go.IntKind.i64 (Int.tmod (Go.IntKind.wrap Go.IntKind.u64 (List.getD xs 5 0)) (Go.IntKind.wrap Go.IntKind.u64 (Go.IntKind.wrap Go.IntKind.i64 (Go.IntKind.wrap Go.IntKind.i64 (64 - 0) + 1)))))), vi (Go.IntKind.wrap Go.IntKind.i64 (1 + Go.IntKind.wrap Go.IntKind.i64 (Int.tmod (Go.IntKind.wrap Go.IntKind.u64 (List.getD xs 6 0)) (Go.IntKind.wrap Go.IntKind.u64 (Go.IntKind.wrap Go.IntKind.i64 (Go.IntKind.wrap Go.IntKind.i64 (1099511627776 - 1) + 1)))))), vi (Go.IntKind.wrap Go.IntKind.i64 (1 + Go.IntKind.wrap Go.IntKind.i64 (Int.tmod (Go.IntKind.wrap Go.IntKind.u64 (List.getD xs 7 0)) (Go.IntKind.wrap Go.IntKind.u64 (Go.IntKind.wrap Go.IntKind.i64 (Go.IntKind.wrap Go.IntKind.i64 (8 - 1) + 1)))))), vi (Go.IntKind.wrap Go.IntKind.i64 (0 + Go.IntKind.wrap Go.IntKind.i64 (Int.tmod (Go.IntKind.wrap Go.IntKind.u64 (List.getD xs 8 0)) (Go.IntKind.wrap Go.IntKind.u64 (Go.IntKind.wrap Go.IntKind.i64 (Go.IntKind.wrap Go.IntKind.i64 (8 - 0) + 1)))))), vi (Go.IntKind.wrap Go.IntKind.i64 (0 + Go.IntKind.wrap Go.IntKind.i64 (Int.tmod (Go.IntKind.wrap Go.IntKind.u64 (List.getD xs 9 0)) (Go.IntKind.wrap Go.IntKind.u64 (Go.IntKind.wrap Go.IntKind.i64 (Go.IntKind.wrap Go.IntKind.i64 (16 - 0) + 1)))))), vi (Go.IntKind.wrap Go.IntKind.i64 (1 + Go.IntKind.wrap Go.IntKind.i64 (Int.tmod (Go.IntKind.wrap Go.IntKind.u64 (List.getD xs 10 0)) (Go.IntKind.wrap Go.IntKind.u64 (Go.IntKind.wrap Go.IntKind.i64 (Go.IntKind.wrap Go.IntKind.i64 (8 - 1) + 1))))))]) []) := by
  kernel_rfl

end Go.Rx
end

section
/- What the layout's functions tell, off their normal forms (by a program of this session's); their contracts. -/
namespace Go.Rx
open Go.Proofs

def v20_0 (xs : List Int) : Int := (bif (Decidable.decide (List.getD xs 23 0 < 0)) then (0) else (bif (Decidable.decide (List.getD xs 23 0 ≥ Go.Rx.v18_0 [List.getD xs 0 0, List.getD xs 1 0, List.getD xs 2 0, List.getD xs 3 0, List.getD xs 4 0, List.getD xs 5 0, List.getD xs 6 0, List.getD xs 7 0, List.getD xs 8 0, List.getD xs 9 0, List.getD xs 10 0, List.getD xs 11 0, List.getD xs 12 0, List.getD xs 13 0, List.getD xs 14 0, List.getD xs 15 0, List.getD xs 16 0, List.getD xs 17 0, List.getD xs 18 0, List.getD xs 19 0, List.getD xs 20 0, List.getD xs 21 0, List.getD xs 22 0])) then (0) else (Go.IntKind.wrap Go.IntKind.i64 (List.getD xs 11 0 + List.getD xs 23 0))))

def p20 (xs : List Int) : Prop := (((( (Int.NonNeg (List.getD xs 2 0 - 0))) ∧ ( (Int.NonNeg (1099511627776 - List.getD xs 2 0))))))

def s20 : Spec := fS [23, 0] p20 (fun xs => vi (v20_0 xs))

def q20 : Spec where
  tr := fun args H K => match H, shA [23, 0] args with
    | [], some xs => p20 xs ∧ ∀ (x0 : Int), x0 = v20_0 xs → K (vi x0) []
    | _, _ => False

def v17_0 (xs : List Int) : Int := (Go.IntKind.wrap Go.IntKind.i64 (1 + Go.IntKind.wrap Go.IntKind.i64 (Int.tmod (Go.IntKind.wrap Go.IntKind.u64 (List.getD xs 0 0)) (Go.IntKind.wrap Go.IntKind.u64 (Go.IntKind.wrap Go.IntKind.i64 (Go.IntKind.wrap Go.IntKind.i64 (64 - 1) + 1))))))

def v17_1 (xs : List Int) : Int := (Go.IntKind.wrap Go.IntKind.i64 (1 + Go.IntKind.wrap Go.IntKind.i64 (Int.tmod (Go.IntKind.wrap Go.IntKind.u64 (List.getD xs 1 0)) (Go.IntKind.wrap Go.IntKind.u64 (Go.IntKind.wrap Go.IntKind.i64 (Go.IntKind.wrap Go.IntKind.i64 (8 - 1) + 1))))))

def v17_2 (xs : List Int) : Int := (Go.IntKind.wrap Go.IntKind.i64 (1 + Go.IntKind.wrap Go.IntKind.i64 (Int.tmod (Go.IntKind.wrap Go.IntKind.u64 (List.getD xs 2 0)) (Go.IntKind.wrap Go.IntKind.u64 (Go.IntKind.wrap Go.IntKind.i64 (Go.IntKind.wrap Go.IntKind.i64 (256 - 1) + 1))))))

def v17_3 (xs : List Int) : Int := (Go.IntKind.wrap Go.IntKind.i64 (1 + Go.IntKind.wrap Go.IntKind.i64 (Int.tmod (Go.IntKind.wrap Go.IntKind.u64 (List.getD xs 3 0)) (Go.IntKind.wrap Go.IntKind.u64 (Go.IntKind.wrap Go.IntKind.i64 (Go.IntKind.wrap Go.IntKind.i64 (64 - 1) + 1))))))

def v17_4 (xs : List Int) : Int := (Go.IntKind.wrap Go.IntKind.i64 (0 + Go.IntKind.wrap Go.IntKind.i64 (Int.tmod (Go.IntKind.wrap Go.IntKind.u64 (List.getD xs 4 0)) (Go.IntKind.wrap Go.IntKind.u64 (Go.IntKind.wrap Go.IntKind.i64 (Go.IntKind.wrap Go.IntKind.i64 (16 - 0) + 1))))))

def v17_5 (xs : List Int) : Int := (Go.IntKind.wrap Go.IntKind.i64 (0 + Go.IntKind.wrap Go.IntKind.i64 (Int.tmod (Go.IntKind.wrap Go.IntKind.u64 (List.getD xs 5 0)) (Go.IntKind.wrap Go.IntKind.u64 (Go.IntKind.wrap Go.IntKind.i64 (Go.IntKind.wrap Go.IntKind.i64 (64 - 0) + 1))))))

def v17_6 (xs : List Int) : Int := (Go.IntKind.wrap Go.IntKind.i64 (1 + Go.IntKind.wrap Go.IntKind.i64 (Int.tmod (Go.IntKind.wrap Go.IntKind.u64 (List.getD xs 6 0)) (Go.IntKind.wrap Go.IntKind.u64 (Go.IntKind.wrap Go.IntKind.i64 (Go.IntKind.wrap Go.IntKind.i64 (1099511627776 - 1) + 1))))))

def v17_7 (xs : List Int) : Int := (Go.IntKind.wrap Go.IntKind.i64 (1 + Go.IntKind.wrap Go.IntKind.i64 (Int.tmod (Go.IntKind.wrap Go.IntKind.u64 (List.getD xs 7 0)) (Go.IntKind.wrap Go.IntKind.u64 (Go.IntKind.wrap Go.IntKind.i64 (Go.IntKind.wrap Go.IntKind.i64 (8 - 1) + 1))))))

def v17_8 (xs : List Int) : Int := (Go.IntKind.wrap Go.IntKind.i64 (0 + Go.IntKind.wrap Go.IntKind.i64 (Int.tmod (Go.IntKind.wrap Go.IntKind.u64 (List.getD xs 8 0)) (Go.IntKind.wrap Go.IntKind.u64 (Go.IntKind.wrap Go.IntKind.i64 (Go.IntKind.wrap Go.IntKind.i64 (8 - 0) + 1))))))

def v17_9 (xs : List Int) : Int := (Go.IntKind.wrap Go.IntKind.i64 (0 + Go.IntKind.wrap Go.IntKind.i64 (Int.tmod (Go.IntKind.wrap Go.IntKind.u64 (List.getD xs 9 0)) (Go.IntKind.wrap Go.IntKind.u64 (Go.IntKind.wrap Go.IntKind.i64 (Go.IntKind.wrap Go.IntKind.i64 (16 - 0) + 1))))))

def v17_10 (xs : List Int) : Int := (Go.IntKind.wrap Go.IntKind.i64 (1 + Go.IntKind.wrap Go.IntKind.i64 (Int.tmod (Go.IntKind.wrap Go.IntKind.u64 (List.getD xs 10 0)) (Go.IntKind.wrap Go.IntKind.u64 (Go.IntKind.wrap Go.IntKind.i64 (Go.IntKind.wrap Go.IntKind.i64 (8 - 1) + 1))))))

def p17 (xs : List Int) : Prop := True

def s17 : Spec := fS [11] p17 (fun xs => .agg [vi (v17_0 xs), vi (v17_1 xs), vi (v17_2 xs), vi (v17_3 xs), vi (v17_4 xs), vi (v17_5 xs), vi (v17_6 xs), vi (v17_7 xs), vi (v17_8 xs), vi (v17_9 xs), vi (v17_10 xs)])

def q17 : Spec where
  tr := fun args H K => match H, shA [11] args with
    | [], some xs => p17 xs ∧ ∀ (x0 : Int) (x1 : Int) (x2 : Int) (x3 : Int) (x4 : Int) (x5 : Int) (x6 : Int) (x7 : Int) (x8 : Int) (x9 : Int) (x10 : Int), x0 = v17_0 xs → x1 = v17_1 xs → x2 = v17_2 xs → x3 = v17_3 xs → x4 = v17_4 xs → x5 = v17_5 xs → x6 = v17_6 xs → x7 = v17_7 xs → x8 = v17_8 xs → x9 = v17_9 xs → x10 = v17_10 xs → K (.agg [vi x0, vi x1, vi x2, vi x3, vi x4, vi x5, vi x6, vi x7, vi x8, vi x9, vi x10]) []
    | _, _ => False



attribute [local irreducible] Loop ex exF contK roundK retK at_ bodyOf mkEnv mkA

theorem sig20_ok : ∀ g s, sig20 g = some s → SpecOK Try.prog elTT g s := by
  intro g s hs
  unfold sig20 at hs
  split at hs
  · injection hs with hs; subst hs; exact ok18
  · injection hs with hs; subst hs; exact inl_ok (cfg := cfgB) (cfg_ok rfl rfl rfl) (nosig rfl) (fn := Try.f70) (by kernel_rfl) (by kernel_rfl) (by kernel_rfl)
  · cases hs

theorem ok20 : SpecOK Try.prog elTT 20 s20 :=
  fS_ok (cfg := cfg20) (cfg_ok rfl rfl rfl) sig20_ok (fn := Try.f20) (by kernel_rfl) (by kernel_rfl) (by kernel_rfl) fun xs K hp hk => Eq.mpr (nf20 xs K) (⟨hp, br_intro (fun h0 => by simpa only [v20_0, h0, cond_true, cond_false] using hk) (fun h0 => br_intro (fun h1 => by simpa only [v20_0, h0, h1, cond_true, cond_false] using hk) (fun h1 => by simpa only [v20_0, h0, h1, cond_true, cond_false] using hk))⟩)

theorem okq20 : SpecOK Try.prog elTT 20 q20 :=
  spec_mono (fun args H K h => by
    unfold q20 at h
    simp only at h
    split at h
    · rename_i xs hxs
      unfold s20 fS
      simp only [hxs]
      exact ⟨h.1, h.2 _ rfl⟩
    · exact h.elim) ok20

theorem ok17 : SpecOK Try.prog elTT 17 s17 :=
  fS_ok (cfg := cfg17) (cfg_ok rfl rfl rfl) sigM_ok (fn := Try.f17) (by kernel_rfl) (by kernel_rfl) (by kernel_rfl) fun xs K hp hk => Eq.mpr (nf17 xs K) (by simpa only [v17_0, v17_1, v17_2, v17_3, v17_4, v17_5, v17_6, v17_7, v17_8, v17_9, v17_10, cond_true, cond_false] using hk)

theorem okq17 : SpecOK Try.prog elTT 17 q17 :=
  spec_mono (fun args H K h => by
    unfold q17 at h
    simp only at h
    split at h
    · rename_i xs hxs
      unfold s17 fS
      simp only [hxs]
      exact ⟨h.1, h.2 _ _ _ _ _ _ _ _ _ _ _ rfl rfl rfl rfl rfl rfl rfl rfl rfl rfl rfl⟩
    · exact h.elim) ok17

end Go.Rx
end

section
namespace Go.Rx
open Go.Proofs

/-! The reference's functions, run in place, level by level. -/
noncomputable def cfgR (n : Nat) (s : FuncId → Option Spec) (u : Nat → Option Nat) : Cfg := { cfgB with sigs := s, plan := planOf n, unroll := u }
def noU : Nat → Option Nat := fun _ => none
noncomputable def cfg74 : Cfg := cfgR 74 (fun _ => none) (fun r => match r with | 3 => some 7 | _ => none)
noncomputable def sigR0 : FuncId → Option Spec := fun f => match f with
  | 19 => some (inl cfgB Try.f19)
  | 71 => some (inl cfgB Try.f71)
  | 72 => some (inl cfgB Try.f72)
  | 74 => some (inl cfg74 Try.f74)
  | _ => none
noncomputable def sigR1 : FuncId → Option Spec := fun f => match f with
  | 75 => some (inl (cfgR 75 sigR0 noU) Try.f75)
  | 76 => some (inl (cfgR 76 sigR0 noU) Try.f76)
  | f => sigR0 f
noncomputable def sigR2 : FuncId → Option Spec := fun f => match f with
  | 79 => some (inl (cfgR 79 sigR1 noU) Try.f79)
  | f => sigR1 f
noncomputable def sigR3 : FuncId → Option Spec := fun f => match f with
  | 80 => some (inl (cfgR 80 sigR2 noU) Try.f80)
  | f => sigR2 f
noncomputable def sigR4 : FuncId → Option Spec := fun f => match f with
  | 78 => some (inl (cfgR 78 sigR3 noU) Try.f78)
  | f => sigR3 f
noncomputable def sigR5 : FuncId → Option Spec := fun f => match f with
  | 42 => some (inl (cfgR 42 sigR4 noU) Try.f42)
  | f => sigR4 f
noncomputable def sigR : FuncId → Option Spec := fun f => match f with
  | 41 => some (inl (cfgR 41 sigR5 noU) Try.f41)
  | f => sigR5 f
noncomputable def cfgQ (n : Nat) : Cfg := cfgR n sigR noU
noncomputable def cfg23 : Cfg := cfgR 23 sigR (fun r => match r with | 5 => some 6 | _ => none)
end Go.Rx
end

section
/- Normal forms of the program's code (by a program of this session's; the kernel checks each). -/
namespace Go.Rx
open Go.Proofs
set_option maxRecDepth 100000
theorem nf19 (xs : List Int) (K : V → Heap → Prop) : (exF (cfgQ 19) Try.f19 (mkA [11] 0 xs) [] K) = (
    K (vi (Go.IntKind.wrap Go.IntKind.i64 (Int.tdiv (Go.IntKind.wrap Go.IntKind.i64 (List.getD xs 2 0 + 3)) 4))) []) := by
  kernel_rfl

theorem nf41 (xs : List Int) (K : V → Heap → Prop) : (exF (cfgQ 41) Try.f41 (mkA [11] 0 xs) [] K) = (
    K (vi (Go.IntKind.wrap Go.IntKind.i64 (Go.IntKind.wrap Go.IntKind.i64 (Go.IntKind.wrap Go.IntKind.i64 (Int.tdiv (Go.IntKind.wrap Go.IntKind.i64 (Go.IntKind.wrap Go.IntKind.i64 (Go.IntKind.wrap Go.IntKind.i64 (Go.IntKind.wrap Go.IntKind.i64 (Go.IntKind.wrap Go.IntKind.i64 (Go.IntKind.wrap Go.IntKind.i64 (Go.IntKind.wrap Go.IntKind.i64 (Go.IntKind.wrap Go.IntKind.i64 (3 + List.getD xs 3 0) + Go.IntKind.wrap Go.IntKind.i64 (Int.tdiv (Go.IntKind.wrap Go.IntKind.i64 (List.getD xs 2 0 + 3)) 4)) + Go.IntKind.wrap Go.IntKind.i64 (5 * List.getD xs 2 0)) + 62) + Go.IntKind.wrap Go.IntKind.i64 (Go.IntKind.wrap Go.IntKind.i64 (5 * List.getD xs 1 0) * Go.IntKind.wrap Go.IntKind.i64 (List.getD xs 8 0 + 1))) + Go.IntKind.wrap Go.IntKind.i64 (5 * Go.IntKind.wrap Go.IntKind.i64 (List.getD xs 9 0 + 1))) + Go.IntKind.wrap Go.IntKind.i64 (32 * List.getD xs 2 0)) + 127)) 128) * 128) + Go.IntKind.wrap Go.IntKind.i64 (32 * List.getD xs 2 0)))) []) := by
  kernel_rfl

theorem nf42 (xs : List Int) (K : V → Heap → Prop) : (exF (cfgQ 42) Try.f42 (mkA [11] 0 xs) [] K) = (
    K (vi (Go.IntKind.wrap Go.IntKind.i64 (Go.IntKind.wrap Go.IntKind.i64 (Int.tdiv (Go.IntKind.wrap Go.IntKind.i64 (Go.IntKind.wrap Go.IntKind.i64 (Go.IntKind.wrap Go.IntKind.i64 (Go.IntKind.wrap Go.IntKind.i64 (Go.IntKind.wrap Go.IntKind.i64 (Go.IntKind.wrap Go.IntKind.i64 (Go.IntKind.wrap Go.IntKind.i64 (Go.IntKind.wrap Go.IntKind.i64 (3 + List.getD xs 3 0) + Go.IntKind.wrap Go.IntKind.i64 (Int.tdiv (Go.IntKind.wrap Go.IntKind.i64 (List.getD xs 2 0 + 3)) 4)) + Go.IntKind.wrap Go.IntKind.i64 (5 * List.getD xs 2 0)) + 62) + Go.IntKind.wrap Go.IntKind.i64 (Go.IntKind.wrap Go.IntKind.i64 (5 * List.getD xs 1 0) * Go.IntKind.wrap Go.IntKind.i64 (List.getD xs 8 0 + 1))) + Go.IntKind.wrap Go.IntKind.i64 (5 * Go.IntKind.wrap Go.IntKind.i64 (List.getD xs 9 0 + 1))) + Go.IntKind.wrap Go.IntKind.i64 (32 * List.getD xs 2 0)) + 127)) 128) * 128))) []) := by
  kernel_rfl

theorem nf21 (xs : List Int) (K : V → Heap → Prop) : (exF (cfgQ 21) Try.f21 (mkA [11, 0] 0 xs) [] K) = (
    br (Decidable.decide (List.getD xs 11 0 ≥ 0))
      (
      br (!Decidable.decide (List.getD xs 11 0 < Go.IntKind.wrap Go.IntKind.i64 (Int.tdiv (Go.IntKind.wrap Go.IntKind.i64 (List.getD xs 2 0 + 3)) 4)))
        (
        K (vi (0)) [])
        (
        K (vi (Go.IntKind.wrap Go.IntKind.i64 (Go.IntKind.wrap Go.IntKind.i64 (3 + List.getD xs 3 0) + List.getD xs 11 0))) []))
      (
      K (vi (0)) [])) := by
  kernel_rfl

theorem nf25 (xs : List Int) (K : V → Heap → Prop) : (exF (cfgQ 25) Try.f25 (mkA [11, 0] 0 xs) [] K) = (
    br (Decidable.decide (List.getD xs 11 0 ≥ 0))
      (
      br (!Decidable.decide (List.getD xs 11 0 < List.getD xs 2 0))
        (
        K (vi (0)) [])
        (
        K (vi (Go.IntKind.wrap Go.IntKind.i64 (Go.IntKind.wrap Go.IntKind.i64 (Go.IntKind.wrap Go.IntKind.i64 (Go.IntKind.wrap Go.IntKind.i64 (3 + List.getD xs 3 0) + Go.IntKind.wrap Go.IntKind.i64 (Int.tdiv (Go.IntKind.wrap Go.IntKind.i64 (List.getD xs 2 0 + 3)) 4)) + Go.IntKind.wrap Go.IntKind.i64 (0 * List.getD xs 2 0)) + List.getD xs 11 0))) []))
      (
      K (vi (0)) [])) := by
  kernel_rfl

theorem nf27 (xs : List Int) (K : V → Heap → Prop) : (exF (cfgQ 27) Try.f27 (mkA [11, 0] 0 xs) [] K) = (
    br (Decidable.decide (List.getD xs 11 0 ≥ 0))
      (
      br (!Decidable.decide (List.getD xs 11 0 < List.getD xs 2 0))
        (
        K (vi (0)) [])
        (
        K (vi (Go.IntKind.wrap Go.IntKind.i64 (Go.IntKind.wrap Go.IntKind.i64 (Go.IntKind.wrap Go.IntKind.i64 (Go.IntKind.wrap Go.IntKind.i64 (3 + List.getD xs 3 0) + Go.IntKind.wrap Go.IntKind.i64 (Int.tdiv (Go.IntKind.wrap Go.IntKind.i64 (List.getD xs 2 0 + 3)) 4)) + Go.IntKind.wrap Go.IntKind.i64 (1 * List.getD xs 2 0)) + List.getD xs 11 0))) []))
      (
      K (vi (0)) [])) := by
  kernel_rfl

theorem nf29 (xs : List Int) (K : V → Heap → Prop) : (exF (cfgQ 29) Try.f29 (mkA [11, 0] 0 xs) [] K) = (
    br (Decidable.decide (List.getD xs 11 0 ≥ 0))
      (
      br (!Decidable.decide (List.getD xs 11 0 < List.getD xs 2 0))
        (
        K (vi (0)) [])
        (
        K (vi (Go.IntKind.wrap Go.IntKind.i64 (Go.IntKind.wrap Go.IntKind.i64 (Go.IntKind.wrap Go.IntKind.i64 (Go.IntKind.wrap Go.IntKind.i64 (3 + List.getD xs 3 0) + Go.IntKind.wrap Go.IntKind.i64 (Int.tdiv (Go.IntKind.wrap Go.IntKind.i64 (List.getD xs 2 0 + 3)) 4)) + Go.IntKind.wrap Go.IntKind.i64 (2 * List.getD xs 2 0)) + List.getD xs 11 0))) []))
      (
      K (vi (0)) [])) := by
  kernel_rfl

theorem nf31 (xs : List Int) (K : V → Heap → Prop) : (exF (cfgQ 31) Try.f31 (mkA [11, 0] 0 xs) [] K) = (
    br (Decidable.decide (List.getD xs 11 0 ≥ 0))
      (
      br (!Decidable.decide (List.getD xs 11 0 < List.getD xs 2 0))
        (
        K (vi (0)) [])
        (
        K (vi (Go.IntKind.wrap Go.IntKind.i64 (Go.IntKind.wrap Go.IntKind.i64 (Go.IntKind.wrap Go.IntKind.i64 (Go.IntKind.wrap Go.IntKind.i64 (3 + List.getD xs 3 0) + Go.IntKind.wrap Go.IntKind.i64 (Int.tdiv (Go.IntKind.wrap Go.IntKind.i64 (List.getD xs 2 0 + 3)) 4)) + Go.IntKind.wrap Go.IntKind.i64 (3 * List.getD xs 2 0)) + List.getD xs 11 0))) []))
      (
      K (vi (0)) [])) := by
  kernel_rfl

theorem nf33 (xs : List Int) (K : V → Heap → Prop) : (exF (cfgQ 33) Try.f33 (mkA [11, 0] 0 xs) [] K) = (
    br (Decidable.decide (List.getD xs 11 0 ≥ 0))
      (
      br (!Decidable.decide (List.getD xs 11 0 < List.getD xs 2 0))
        (
        K (vi (0)) [])
        (
        K (vi (Go.IntKind.wrap Go.IntKind.i64 (Go.IntKind.wrap Go.IntKind.i64 (Go.IntKind.wrap Go.IntKind.i64 (Go.IntKind.wrap Go.IntKind.i64 (3 + List.getD xs 3 0) + Go.IntKind.wrap Go.IntKind.i64 (Int.tdiv (Go.IntKind.wrap Go.IntKind.i64 (List.getD xs 2 0 + 3)) 4)) + Go.IntKind.wrap Go.IntKind.i64 (4 * List.getD xs 2 0)) + List.getD xs 11 0))) []))
      (
      K (vi (0)) [])) := by
  kernel_rfl

theorem nf35 (xs : List Int) (K : V → Heap → Prop) : (exF (cfgQ 35) Try.f35 (mkA [11, 0] 0 xs) [] K) = (
    br (Decidable.decide (List.getD xs 11 0 ≥ 0))
      (
      br (!Decidable.decide (List.getD xs 11 0 < List.getD xs 2 0))
        (
        K (vi (0)) [])
        (
        K (vi (Go.IntKind.wrap Go.IntKind.i64 (Go.IntKind.wrap Go.IntKind.i64 (Go.IntKind.wrap Go.IntKind.i64 (Int.tdiv (Go.IntKind.wrap Go.IntKind.i64 (Go.IntKind.wrap Go.IntKind.i64 (Go.IntKind.wrap Go.IntKind.i64 (Go.IntKind.wrap Go.IntKind.i64 (Go.IntKind.wrap Go.IntKind.i64 (Go.IntKind.wrap Go.IntKind.i64 (Go.IntKind.wrap Go.IntKind.i64 (Go.IntKind.wrap Go.IntKind.i64 (3 + List.getD xs 3 0) + Go.IntKind.wrap Go.IntKind.i64 (Int.tdiv (Go.IntKind.wrap Go.IntKind.i64 (List.getD xs 2 0 + 3)) 4)) + Go.IntKind.wrap Go.IntKind.i64 (5 * List.getD xs 2 0)) + 62) + Go.IntKind.wrap Go.IntKind.i64 (Go.IntKind.wrap Go.IntKind.i64 (5 * List.getD xs 1 0) * Go.IntKind.wrap Go.IntKind.i64 (List.getD xs 8 0 + 1))) + Go.IntKind.wrap Go.IntKind.i64 (5 * Go.IntKind.wrap Go.IntKind.i64 (List.getD xs 9 0 + 1))) + Go.IntKind.wrap Go.IntKind.i64 (32 * List.getD xs 2 0)) + 127)) 128) * 128) + Go.IntKind.wrap Go.IntKind.i64 (32 * List.getD xs 11 0)))) []))
      (
      K (vi (0)) [])) := by
  kernel_rfl

theorem nf40 (xs : List Int) (K : V → Heap → Prop) : (exF (cfgQ 40) Try.f40 (mkA [11, 0] 0 xs) [] K) = (
    br (Decidable.decide (List.getD xs 11 0 < Go.IntKind.wrap Go.IntKind.i64 (Go.IntKind.wrap Go.IntKind.i64 (Int.tdiv (Go.IntKind.wrap Go.IntKind.i64 (Go.IntKind.wrap Go.IntKind.i64 (Go.IntKind.wrap Go.IntKind.i64 (Go.IntKind.wrap Go.IntKind.i64 (Go.IntKind.wrap Go.IntKind.i64 (Go.IntKind.wrap Go.IntKind.i64 (Go.IntKind.wrap Go.IntKind.i64 (Go.IntKind.wrap Go.IntKind.i64 (3 + List.getD xs 3 0) + Go.IntKind.wrap Go.IntKind.i64 (Int.tdiv (Go.IntKind.wrap Go.IntKind.i64 (List.getD xs 2 0 + 3)) 4)) + Go.IntKind.wrap Go.IntKind.i64 (5 * List.getD xs 2 0)) + 62) + Go.IntKind.wrap Go.IntKind.i64 (Go.IntKind.wrap Go.IntKind.i64 (5 * List.getD xs 1 0) * Go.IntKind.wrap Go.IntKind.i64 (List.getD xs 8 0 + 1))) + Go.IntKind.wrap Go.IntKind.i64 (5 * Go.IntKind.wrap Go.IntKind.i64 (List.getD xs 9 0 + 1))) + Go.IntKind.wrap Go.IntKind.i64 (32 * List.getD xs 2 0)) + 127)) 128) * 128)))
      (
      K (.tup [vi (0), vi (0), vb (Bool.false)]) [])
      (
      br (Decidable.decide (List.getD xs 11 0 ≥ Go.IntKind.wrap Go.IntKind.i64 (Go.IntKind.wrap Go.IntKind.i64 (Go.IntKind.wrap Go.IntKind.i64 (Int.tdiv (Go.IntKind.wrap Go.IntKind.i64 (Go.IntKind.wrap Go.IntKind.i64 (Go.IntKind.wrap Go.IntKind.i64 (Go.IntKind.wrap Go.IntKind.i64 (Go.IntKind.wrap Go.IntKind.i64 (Go.IntKind.wrap Go.IntKind.i64 (Go.IntKind.wrap Go.IntKind.i64 (Go.IntKind.wrap Go.IntKind.i64 (3 + List.getD xs 3 0) + Go.IntKind.wrap Go.IntKind.i64 (Int.tdiv (Go.IntKind.wrap Go.IntKind.i64 (List.getD xs 2 0 + 3)) 4)) + Go.IntKind.wrap Go.IntKind.i64 (5 * List.getD xs 2 0)) + 62) + Go.IntKind.wrap Go.IntKind.i64 (Go.IntKind.wrap Go.IntKind.i64 (5 * List.getD xs 1 0) * Go.IntKind.wrap Go.IntKind.i64 (List.getD xs 8 0 + 1))) + Go.IntKind.wrap Go.IntKind.i64 (5 * Go.IntKind.wrap Go.IntKind.i64 (List.getD xs 9 0 + 1))) + Go.IntKind.wrap Go.IntKind.i64 (32 * List.getD xs 2 0)) + 127)) 128) * 128) + Go.IntKind.wrap Go.IntKind.i64 (32 * List.getD xs 2 0))))
        (
        K (.tup [vi (0), vi (0), vb (Bool.false)]) [])
        (
        K (.tup [vi (Go.IntKind.wrap Go.IntKind.i64 (Int.tdiv (Go.IntKind.wrap Go.IntKind.i64 (List.getD xs 11 0 - Go.IntKind.wrap Go.IntKind.i64 (Go.IntKind.wrap Go.IntKind.i64 (Int.tdiv (Go.IntKind.wrap Go.IntKind.i64 (Go.IntKind.wrap Go.IntKind.i64 (Go.IntKind.wrap Go.IntKind.i64 (Go.IntKind.wrap Go.IntKind.i64 (Go.IntKind.wrap Go.IntKind.i64 (Go.IntKind.wrap Go.IntKind.i64 (Go.IntKind.wrap Go.IntKind.i64 (Go.IntKind.wrap Go.IntKind.i64 (3 + List.getD xs 3 0) + Go.IntKind.wrap Go.IntKind.i64 (Int.tdiv (Go.IntKind.wrap Go.IntKind.i64 (List.getD xs 2 0 + 3)) 4)) + Go.IntKind.wrap Go.IntKind.i64 (5 * List.getD xs 2 0)) + 62) + Go.IntKind.wrap Go.IntKind.i64 (Go.IntKind.wrap Go.IntKind.i64 (5 * List.getD xs 1 0) * Go.IntKind.wrap Go.IntKind.i64 (List.getD xs 8 0 + 1))) + Go.IntKind.wrap Go.IntKind.i64 (5 * Go.IntKind.wrap Go.IntKind.i64 (List.getD xs 9 0 + 1))) + Go.IntKind.wrap Go.IntKind.i64 (32 * List.getD xs 2 0)) + 127)) 128) * 128))) 32)), vi (Int.tmod (Go.IntKind.wrap Go.IntKind.i64 (List.getD xs 11 0 - Go.IntKind.wrap Go.IntKind.i64 (Go.IntKind.wrap Go.IntKind.i64 (Int.tdiv (Go.IntKind.wrap Go.IntKind.i64 (Go.IntKind.wrap Go.IntKind.i64 (Go.IntKind.wrap Go.IntKind.i64 (Go.IntKind.wrap Go.IntKind.i64 (Go.IntKind.wrap Go.IntKind.i64 (Go.IntKind.wrap Go.IntKind.i64 (Go.IntKind.wrap Go.IntKind.i64 (Go.IntKind.wrap Go.IntKind.i64 (3 + List.getD xs 3 0) + Go.IntKind.wrap Go.IntKind.i64 (Int.tdiv (Go.IntKind.wrap Go.IntKind.i64 (List.getD xs 2 0 + 3)) 4)) + Go.IntKind.wrap Go.IntKind.i64 (5 * List.getD xs 2 0)) + 62) + Go.IntKind.wrap Go.IntKind.i64 (Go.IntKind.wrap Go.IntKind.i64 (5 * List.getD xs 1 0) * Go.IntKind.wrap Go.IntKind.i64 (List.getD xs 8 0 + 1))) + Go.IntKind.wrap Go.IntKind.i64 (5 * Go.IntKind.wrap Go.IntKind.i64 (List.getD xs 9 0 + 1))) + Go.IntKind.wrap Go.IntKind.i64 (32 * List.getD xs 2 0)) + 127)) 128) * 128))) 32), vb (Bool.true)]) []))) := by
  kernel_rfl

theorem nf46 (xs : List Int) (K : V → Heap → Prop) : (exF (cfgQ 46) Try.f46 (mkA [11, 0] 0 xs) [] K) = (
    br (Decidable.decide (List.getD xs 11 0 < 0))
      (
      K (vi (0)) [])
      (
      br (Decidable.decide (List.getD xs 11 0 ≥ Go.IntKind.wrap Go.IntKind.i64 (Go.IntKind.wrap Go.IntKind.i64 (Go.IntKind.wrap Go.IntKind.i64 (Int.tdiv (Go.IntKind.wrap Go.IntKind.i64 (Go.IntKind.wrap Go.IntKind.i64 (Go.IntKind.wrap Go.IntKind.i64 (Go.IntKind.wrap Go.IntKind.i64 (Go.IntKind.wrap Go.IntKind.i64 (Go.IntKind.wrap Go.IntKind.i64 (Go.IntKind.wrap Go.IntKind.i64 (Go.IntKind.wrap Go.IntKind.i64 (3 + List.getD xs 3 0) + Go.IntKind.wrap Go.IntKind.i64 (Int.tdiv (Go.IntKind.wrap Go.IntKind.i64 (List.getD xs 2 0 + 3)) 4)) + Go.IntKind.wrap Go.IntKind.i64 (5 * List.getD xs 2 0)) + 62) + Go.IntKind.wrap Go.IntKind.i64 (Go.IntKind.wrap Go.IntKind.i64 (5 * List.getD xs 1 0) * Go.IntKind.wrap Go.IntKind.i64 (List.getD xs 8 0 + 1))) + Go.IntKind.wrap Go.IntKind.i64 (5 * Go.IntKind.wrap Go.IntKind.i64 (List.getD xs 9 0 + 1))) + Go.IntKind.wrap Go.IntKind.i64 (32 * List.getD xs 2 0)) + 127)) 128) * 128) + Go.IntKind.wrap Go.IntKind.i64 (32 * List.getD xs 2 0))))
        (
        K (vi (0)) [])
        (
        Req (!List.getD xs 3 0 == 0)
          (
          K (vi (Go.IntKind.wrap Go.IntKind.i64 (3 + Int.tmod (List.getD xs 11 0) (List.getD xs 3 0)))) [])))) := by
  kernel_rfl

theorem nf48 (xs : List Int) (K : V → Heap → Prop) : (exF (cfgQ 48) Try.f48 (mkA [11, 0] 0 xs) [] K) = (
    br (Decidable.decide (List.getD xs 11 0 ≥ 0))
      (
      br (!Decidable.decide (List.getD xs 11 0 ≤ 4))
        (
        K (vi (0)) [])
        (
        K (vi (Go.IntKind.wrap Go.IntKind.i64 (Go.IntKind.wrap Go.IntKind.i64 (Go.IntKind.wrap Go.IntKind.i64 (Go.IntKind.wrap Go.IntKind.i64 (Go.IntKind.wrap Go.IntKind.i64 (Go.IntKind.wrap Go.IntKind.i64 (3 + List.getD xs 3 0) + Go.IntKind.wrap Go.IntKind.i64 (Int.tdiv (Go.IntKind.wrap Go.IntKind.i64 (List.getD xs 2 0 + 3)) 4)) + Go.IntKind.wrap Go.IntKind.i64 (5 * List.getD xs 2 0)) + 62) + Go.IntKind.wrap Go.IntKind.i64 (Go.IntKind.wrap Go.IntKind.i64 (5 * List.getD xs 1 0) * Go.IntKind.wrap Go.IntKind.i64 (List.getD xs 8 0 + 1))) + Go.IntKind.wrap Go.IntKind.i64 (List.getD xs 11 0 * Go.IntKind.wrap Go.IntKind.i64 (List.getD xs 9 0 + 1))))) []))
      (
      K (vi (0)) [])) := by
  kernel_rfl

theorem nf49 (xs : List Int) (K : V → Heap → Prop) : (exF (cfgQ 49) Try.f49 (mkA [11, 0] 0 xs) [] K) = (
    br (Decidable.decide (List.getD xs 11 0 ≥ Go.IntKind.wrap Go.IntKind.i64 (Go.IntKind.wrap Go.IntKind.i64 (Int.tdiv (Go.IntKind.wrap Go.IntKind.i64 (Go.IntKind.wrap Go.IntKind.i64 (Go.IntKind.wrap Go.IntKind.i64 (Go.IntKind.wrap Go.IntKind.i64 (Go.IntKind.wrap Go.IntKind.i64 (Go.IntKind.wrap Go.IntKind.i64 (Go.IntKind.wrap Go.IntKind.i64 (Go.IntKind.wrap Go.IntKind.i64 (3 + List.getD xs 3 0) + Go.IntKind.wrap Go.IntKind.i64 (Int.tdiv (Go.IntKind.wrap Go.IntKind.i64 (List.getD xs 2 0 + 3)) 4)) + Go.IntKind.wrap Go.IntKind.i64 (5 * List.getD xs 2 0)) + 62) + Go.IntKind.wrap Go.IntKind.i64 (Go.IntKind.wrap Go.IntKind.i64 (5 * List.getD xs 1 0) * Go.IntKind.wrap Go.IntKind.i64 (List.getD xs 8 0 + 1))) + Go.IntKind.wrap Go.IntKind.i64 (5 * Go.IntKind.wrap Go.IntKind.i64 (List.getD xs 9 0 + 1))) + Go.IntKind.wrap Go.IntKind.i64 (32 * List.getD xs 2 0)) + 127)) 128) * 128)))
      (
      br (!Decidable.decide (List.getD xs 11 0 < Go.IntKind.wrap Go.IntKind.i64 (Go.IntKind.wrap Go.IntKind.i64 (Go.IntKind.wrap Go.IntKind.i64 (Int.tdiv (Go.IntKind.wrap Go.IntKind.i64 (Go.IntKind.wrap Go.IntKind.i64 (Go.IntKind.wrap Go.IntKind.i64 (Go.IntKind.wrap Go.IntKind.i64 (Go.IntKind.wrap Go.IntKind.i64 (Go.IntKind.wrap Go.IntKind.i64 (Go.IntKind.wrap Go.IntKind.i64 (Go.IntKind.wrap Go.IntKind.i64 (3 + List.getD xs 3 0) + Go.IntKind.wrap Go.IntKind.i64 (Int.tdiv (Go.IntKind.wrap Go.IntKind.i64 (List.getD xs 2 0 + 3)) 4)) + Go.IntKind.wrap Go.IntKind.i64 (5 * List.getD xs 2 0)) + 62) + Go.IntKind.wrap Go.IntKind.i64 (Go.IntKind.wrap Go.IntKind.i64 (5 * List.getD xs 1 0) * Go.IntKind.wrap Go.IntKind.i64 (List.getD xs 8 0 + 1))) + Go.IntKind.wrap Go.IntKind.i64 (5 * Go.IntKind.wrap Go.IntKind.i64 (List.getD xs 9 0 + 1))) + Go.IntKind.wrap Go.IntKind.i64 (32 * List.getD xs 2 0)) + 127)) 128) * 128) + Go.IntKind.wrap Go.IntKind.i64 (32 * List.getD xs 2 0))))
        (
        K (vi (0)) [])
        (
        K (vi (Go.IntKind.wrap Go.IntKind.i64 (Go.IntKind.wrap Go.IntKind.i64 (Go.IntKind.wrap Go.IntKind.i64 (Go.IntKind.wrap Go.IntKind.i64 (Go.IntKind.wrap Go.IntKind.i64 (Go.IntKind.wrap Go.IntKind.i64 (Go.IntKind.wrap Go.IntKind.i64 (Go.IntKind.wrap Go.IntKind.i64 (3 + List.getD xs 3 0) + Go.IntKind.wrap Go.IntKind.i64 (Int.tdiv (Go.IntKind.wrap Go.IntKind.i64 (List.getD xs 2 0 + 3)) 4)) + Go.IntKind.wrap Go.IntKind.i64 (5 * List.getD xs 2 0)) + 62) + Go.IntKind.wrap Go.IntKind.i64 (Go.IntKind.wrap Go.IntKind.i64 (5 * List.getD xs 1 0) * Go.IntKind.wrap Go.IntKind.i64 (List.getD xs 8 0 + 1))) + Go.IntKind.wrap Go.IntKind.i64 (5 * Go.IntKind.wrap Go.IntKind.i64 (List.getD xs 9 0 + 1))) + List.getD xs 11 0) - Go.IntKind.wrap Go.IntKind.i64 (Go.IntKind.wrap Go.IntKind.i64 (Int.tdiv (Go.IntKind.wrap Go.IntKind.i64 (Go.IntKind.wrap Go.IntKind.i64 (Go.IntKind.wrap Go.IntKind.i64 (Go.IntKind.wrap Go.IntKind.i64 (Go.IntKind.wrap Go.IntKind.i64 (Go.IntKind.wrap Go.IntKind.i64 (Go.IntKind.wrap Go.IntKind.i64 (Go.IntKind.wrap Go.IntKind.i64 (3 + List.getD xs 3 0) + Go.IntKind.wrap Go.IntKind.i64 (Int.tdiv (Go.IntKind.wrap Go.IntKind.i64 (List.getD xs 2 0 + 3)) 4)) + Go.IntKind.wrap Go.IntKind.i64 (5 * List.getD xs 2 0)) + 62) + Go.IntKind.wrap Go.IntKind.i64 (Go.IntKind.wrap Go.IntKind.i64 (5 * List.getD xs 1 0) * Go.IntKind.wrap Go.IntKind.i64 (List.getD xs 8 0 + 1))) + Go.IntKind.wrap Go.IntKind.i64 (5 * Go.IntKind.wrap Go.IntKind.i64 (List.getD xs 9 0 + 1))) + Go.IntKind.wrap Go.IntKind.i64 (32 * List.getD xs 2 0)) + 127)) 128) * 128)))) []))
      (
      K (vi (0)) [])) := by
  kernel_rfl

theorem nf47 (xs : List Int) (K : V → Heap → Prop) : (exF (cfgQ 47) Try.f47 (mkA [11, 0, 0] 0 xs) [] K) = (
    br (Decidable.decide (List.getD xs 11 0 ≥ 0))
      (
      br (Decidable.decide (List.getD xs 11 0 < List.getD xs 1 0))
        (
        br (Decidable.decide (List.getD xs 12 0 ≥ 0))
          (
          br (!Decidable.decide (List.getD xs 12 0 ≤ 4))
            (
            K (vi (0)) [])
            (
            K (vi (Go.IntKind.wrap Go.IntKind.i64 (Go.IntKind.wrap Go.IntKind.i64 (Go.IntKind.wrap Go.IntKind.i64 (Go.IntKind.wrap Go.IntKind.i64 (Go.IntKind.wrap Go.IntKind.i64 (3 + List.getD xs 3 0) + Go.IntKind.wrap Go.IntKind.i64 (Int.tdiv (Go.IntKind.wrap Go.IntKind.i64 (List.getD xs 2 0 + 3)) 4)) + Go.IntKind.wrap Go.IntKind.i64 (5 * List.getD xs 2 0)) + 62) + Go.IntKind.wrap Go.IntKind.i64 (Go.IntKind.wrap Go.IntKind.i64 (Go.IntKind.wrap Go.IntKind.i64 (5 * List.getD xs 11 0) + List.getD xs 12 0) * Go.IntKind.wrap Go.IntKind.i64 (List.getD xs 8 0 + 1))))) []))
          (
          K (vi (0)) []))
        (
        K (vi (0)) []))
      (
      K (vi (0)) [])) := by
  kernel_rfl

theorem nf23 (xs : List Int) (K : V → Heap → Prop) : (exF cfg23 Try.f23 (mkA [11, 0, 0] 0 xs) [] K) = (
    br (Decidable.decide (List.getD xs 11 0 < 0))
      (
      K (vi (0)) [])
      (
      br (Decidable.decide (List.getD xs 11 0 > 4))
        (
        K (vi (0)) [])
        (
        br (Decidable.decide (0 < List.getD xs 11 0))
          (
          br (Decidable.decide (Go.IntKind.wrap Go.IntKind.i64 (0 + 1) < List.getD xs 11 0))
            (
            br (Decidable.decide (Go.IntKind.wrap Go.IntKind.i64 (Go.IntKind.wrap Go.IntKind.i64 (0 + 1) + 1) < List.getD xs 11 0))
              (
              br (Decidable.decide (Go.IntKind.wrap Go.IntKind.i64 (Go.IntKind.wrap Go.IntKind.i64 (Go.IntKind.wrap Go.IntKind.i64 (0 + 1) + 1) + 1) < List.getD xs 11 0))
                (
                br (Decidable.decide (Go.IntKind.wrap Go.IntKind.i64 (Go.IntKind.wrap Go.IntKind.i64 (Go.IntKind.wrap Go.IntKind.i64 (Go.IntKind.wrap Go.IntKind.i64 (0 + 1) + 1) + 1) + 1) < List.getD xs 11 0))
                  (
                  br (Decidable.decide (Go.IntKind.wrap Go.IntKind.i64 (Go.IntKind.wrap Go.IntKind.i64 (Go.IntKind.wrap Go.IntKind.i64 (Go.IntKind.wrap Go.IntKind.i64 (Go.IntKind.wrap Go.IntKind.i64 (0 + 1) + 1) + 1) + 1) + 1) < List.getD xs 11 0))
                    (
                    False)
                    (
                    br (Decidable.decide (List.getD xs 12 0 ≥ 1))
                      (
                      br (Decidable.decide (0 < List.getD xs 11 0))
                        (
                        br (Decidable.decide (Go.IntKind.wrap Go.IntKind.i64 (0 + 1) < List.getD xs 11 0))
                          (
                          br (Decidable.decide (Go.IntKind.wrap Go.IntKind.i64 (Go.IntKind.wrap Go.IntKind.i64 (0 + 1) + 1) < List.getD xs 11 0))
                            (
                            br (Decidable.decide (Go.IntKind.wrap Go.IntKind.i64 (Go.IntKind.wrap Go.IntKind.i64 (Go.IntKind.wrap Go.IntKind.i64 (0 + 1) + 1) + 1) < List.getD xs 11 0))
                              (
                              br (Decidable.decide (Go.IntKind.wrap Go.IntKind.i64 (Go.IntKind.wrap Go.IntKind.i64 (Go.IntKind.wrap Go.IntKind.i64 (Go.IntKind.wrap Go.IntKind.i64 (0 + 1) + 1) + 1) + 1) < List.getD xs 11 0))
                                (
                                br (Decidable.decide (Go.IntKind.wrap Go.IntKind.i64 (Go.IntKind.wrap Go.IntKind.i64 (Go.IntKind.wrap Go.IntKind.i64 (Go.IntKind.wrap Go.IntKind.i64 (Go.IntKind.wrap Go.IntKind.i64 (0 + 1) + 1) + 1) + 1) + 1) < List.getD xs 11 0))
                                  (
                                  br (!Decidable.decide (List.getD xs 12 0 ≤ Go.IntKind.wrap Go.IntKind.i64 (Int.tdiv (Go.IntKind.wrap Go.IntKind.i64 (Int.tdiv (Go.IntKind.wrap Go.IntKind.i64 (Int.tdiv (Go.IntKind.wrap Go.IntKind.i64 (Int.tdiv (Go.IntKind.wrap Go.IntKind.i64 (Int.tdiv 32 2)) 2)) 2)) 2)) 2)))
                                    (
                                    K (vi (0)) [])
                                    (
                                    K (vi (Go.IntKind.wrap Go.IntKind.i64 (Go.IntKind.wrap Go.IntKind.i64 (Go.IntKind.wrap Go.IntKind.i64 (Go.IntKind.wrap Go.IntKind.i64 (Go.IntKind.wrap Go.IntKind.i64 (Go.IntKind.wrap Go.IntKind.i64 (3 + List.getD xs 3 0) + Go.IntKind.wrap Go.IntKind.i64 (Int.tdiv (Go.IntKind.wrap Go.IntKind.i64 (List.getD xs 2 0 + 3)) 4)) + Go.IntKind.wrap Go.IntKind.i64 (5 * List.getD xs 2 0)) + Go.IntKind.wrap Go.IntKind.i64 (Go.IntKind.wrap Go.IntKind.i64 (Go.IntKind.wrap Go.IntKind.i64 (Go.IntKind.wrap Go.IntKind.i64 (Go.IntKind.wrap Go.IntKind.i64 (0 + 32) + Go.IntKind.wrap Go.IntKind.i64 (Int.tdiv 32 2)) + Go.IntKind.wrap Go.IntKind.i64 (Int.tdiv (Go.IntKind.wrap Go.IntKind.i64 (Int.tdiv 32 2)) 2)) + Go.IntKind.wrap Go.IntKind.i64 (Int.tdiv (Go.IntKind.wrap Go.IntKind.i64 (Int.tdiv (Go.IntKind.wrap Go.IntKind.i64 (Int.tdiv 32 2)) 2)) 2)) + Go.IntKind.wrap Go.IntKind.i64 (Int.tdiv (Go.IntKind.wrap Go.IntKind.i64 (Int.tdiv (Go.IntKind.wrap Go.IntKind.i64 (Int.tdiv (Go.IntKind.wrap Go.IntKind.i64 (Int.tdiv 32 2)) 2)) 2)) 2))) + List.getD xs 12 0) - 1))) []))
                                  (
                                  br (!Decidable.decide (List.getD xs 12 0 ≤ Go.IntKind.wrap Go.IntKind.i64 (Int.tdiv (Go.IntKind.wrap Go.IntKind.i64 (Int.tdiv (Go.IntKind.wrap Go.IntKind.i64 (Int.tdiv (Go.IntKind.wrap Go.IntKind.i64 (Int.tdiv (Go.IntKind.wrap Go.IntKind.i64 (Int.tdiv 32 2)) 2)) 2)) 2)) 2)))
                                    (
                                    K (vi (0)) [])
                                    (
                                    K (vi (Go.IntKind.wrap Go.IntKind.i64 (Go.IntKind.wrap Go.IntKind.i64 (Go.IntKind.wrap Go.IntKind.i64 (Go.IntKind.wrap Go.IntKind.i64 (Go.IntKind.wrap Go.IntKind.i64 (Go.IntKind.wrap Go.IntKind.i64 (3 + List.getD xs 3 0) + Go.IntKind.wrap Go.IntKind.i64 (Int.tdiv (Go.IntKind.wrap Go.IntKind.i64 (List.getD xs 2 0 + 3)) 4)) + Go.IntKind.wrap Go.IntKind.i64 (5 * List.getD xs 2 0)) + Go.IntKind.wrap Go.IntKind.i64 (Go.IntKind.wrap Go.IntKind.i64 (Go.IntKind.wrap Go.IntKind.i64 (Go.IntKind.wrap Go.IntKind.i64 (Go.IntKind.wrap Go.IntKind.i64 (0 + 32) + Go.IntKind.wrap Go.IntKind.i64 (Int.tdiv 32 2)) + Go.IntKind.wrap Go.IntKind.i64 (Int.tdiv (Go.IntKind.wrap Go.IntKind.i64 (Int.tdiv 32 2)) 2)) + Go.IntKind.wrap Go.IntKind.i64 (Int.tdiv (Go.IntKind.wrap Go.IntKind.i64 (Int.tdiv (Go.IntKind.wrap Go.IntKind.i64 (Int.tdiv 32 2)) 2)) 2)) + Go.IntKind.wrap Go.IntKind.i64 (Int.tdiv (Go.IntKind.wrap Go.IntKind.i64 (Int.tdiv (Go.IntKind.wrap Go.IntKind.i64 (Int.tdiv (Go.IntKind.wrap Go.IntKind.i64 (Int.tdiv 32 2)) 2)) 2)) 2))) + List.getD xs 12 0) - 1))) [])))
                                (
                                br (!Decidable.decide (List.getD xs 12 0 ≤ Go.IntKind.wrap Go.IntKind.i64 (Int.tdiv (Go.IntKind.wrap Go.IntKind.i64 (Int.tdiv (Go.IntKind.wrap Go.IntKind.i64 (Int.tdiv (Go.IntKind.wrap Go.IntKind.i64 (Int.tdiv 32 2)) 2)) 2)) 2)))
                                  (
                                  K (vi (0)) [])
                                  (
                                  K (vi (Go.IntKind.wrap Go.IntKind.i64 (Go.IntKind.wrap Go.IntKind.i64 (Go.IntKind.wrap Go.IntKind.i64 (Go.IntKind.wrap Go.IntKind.i64 (Go.IntKind.wrap Go.IntKind.i64 (Go.IntKind.wrap Go.IntKind.i64 (3 + List.getD xs 3 0) + Go.IntKind.wrap Go.IntKind.i64 (Int.tdiv (Go.IntKind.wrap Go.IntKind.i64 (List.getD xs 2 0 + 3)) 4)) + Go.IntKind.wrap Go.IntKind.i64 (5 * List.getD xs 2 0)) + Go.IntKind.wrap Go.IntKind.i64 (Go.IntKind.wrap Go.IntKind.i64 (Go.IntKind.wrap Go.IntKind.i64 (Go.IntKind.wrap Go.IntKind.i64 (Go.IntKind.wrap Go.IntKind.i64 (0 + 32) + Go.IntKind.wrap Go.IntKind.i64 (Int.tdiv 32 2)) + Go.IntKind.wrap Go.IntKind.i64 (Int.tdiv (Go.IntKind.wrap Go.IntKind.i64 (Int.tdiv 32 2)) 2)) + Go.IntKind.wrap Go.IntKind.i64 (Int.tdiv (Go.IntKind.wrap Go.IntKind.i64 (Int.tdiv (Go.IntKind.wrap Go.IntKind.i64 (Int.tdiv 32 2)) 2)) 2)) + Go.IntKind.wrap Go.IntKind.i64 (Int.tdiv (Go.IntKind.wrap Go.IntKind.i64 (Int.tdiv (Go.IntKind.wrap Go.IntKind.i64 (Int.tdiv (Go.IntKind.wrap Go.IntKind.i64 (Int.tdiv 32 2)) 2)) 2)) 2))) + List.getD xs 12 0) - 1))) [])))
                              (
                              br (!Decidable.decide (List.getD xs 12 0 ≤ Go.IntKind.wrap Go.IntKind.i64 (Int.tdiv (Go.IntKind.wrap Go.IntKind.i64 (Int.tdiv (Go.IntKind.wrap Go.IntKind.i64 (Int.tdiv 32 2)) 2)) 2)))
                                (
                                K (vi (0)) [])
                                (
                                K (vi (Go.IntKind.wrap Go.IntKind.i64 (Go.IntKind.wrap Go.IntKind.i64 (Go.IntKind.wrap Go.IntKind.i64 (Go.IntKind.wrap Go.IntKind.i64 (Go.IntKind.wrap Go.IntKind.i64 (Go.IntKind.wrap Go.IntKind.i64 (3 + List.getD xs 3 0) + Go.IntKind.wrap Go.IntKind.i64 (Int.tdiv (Go.IntKind.wrap Go.IntKind.i64 (List.getD xs 2 0 + 3)) 4)) + Go.IntKind.wrap Go.IntKind.i64 (5 * List.getD xs 2 0)) + Go.IntKind.wrap Go.IntKind.i64 (Go.IntKind.wrap Go.IntKind.i64 (Go.IntKind.wrap Go.IntKind.i64 (Go.IntKind.wrap Go.IntKind.i64 (Go.IntKind.wrap Go.IntKind.i64 (0 + 32) + Go.IntKind.wrap Go.IntKind.i64 (Int.tdiv 32 2)) + Go.IntKind.wrap Go.IntKind.i64 (Int.tdiv (Go.IntKind.wrap Go.IntKind.i64 (Int.tdiv 32 2)) 2)) + Go.IntKind.wrap Go.IntKind.i64 (Int.tdiv (Go.IntKind.wrap Go.IntKind.i64 (Int.tdiv (Go.IntKind.wrap Go.IntKind.i64 (Int.tdiv 32 2)) 2)) 2)) + Go.IntKind.wrap Go.IntKind.i64 (Int.tdiv (Go.IntKind.wrap Go.IntKind.i64 (Int.tdiv (Go.IntKind.wrap Go.IntKind.i64 (Int.tdiv (Go.IntKind.wrap Go.IntKind.i64 (Int.tdiv 32 2)) 2)) 2)) 2))) + List.getD xs 12 0) - 1))) [])))
                            (
                            br (!Decidable.decide (List.getD xs 12 0 ≤ Go.IntKind.wrap Go.IntKind.i64 (Int.tdiv (Go.IntKind.wrap Go.IntKind.i64 (Int.tdiv 32 2)) 2)))
                              (
                              K (vi (0)) [])
                              (
                              K (vi (Go.IntKind.wrap Go.IntKind.i64 (Go.IntKind.wrap Go.IntKind.i64 (Go.IntKind.wrap Go.IntKind.i64 (Go.IntKind.wrap Go.IntKind.i64 (Go.IntKind.wrap Go.IntKind.i64 (Go.IntKind.wrap Go.IntKind.i64 (3 + List.getD xs 3 0) + Go.IntKind.wrap Go.IntKind.i64 (Int.tdiv (Go.IntKind.wrap Go.IntKind.i64 (List.getD xs 2 0 + 3)) 4)) + Go.IntKind.wrap Go.IntKind.i64 (5 * List.getD xs 2 0)) + Go.IntKind.wrap Go.IntKind.i64 (Go.IntKind.wrap Go.IntKind.i64 (Go.IntKind.wrap Go.IntKind.i64 (Go.IntKind.wrap Go.IntKind.i64 (Go.IntKind.wrap Go.IntKind.i64 (0 + 32) + Go.IntKind.wrap Go.IntKind.i64 (Int.tdiv 32 2)) + Go.IntKind.wrap Go.IntKind.i64 (Int.tdiv (Go.IntKind.wrap Go.IntKind.i64 (Int.tdiv 32 2)) 2)) + Go.IntKind.wrap Go.IntKind.i64 (Int.tdiv (Go.IntKind.wrap Go.IntKind.i64 (Int.tdiv (Go.IntKind.wrap Go.IntKind.i64 (Int.tdiv 32 2)) 2)) 2)) + Go.IntKind.wrap Go.IntKind.i64 (Int.tdiv (Go.IntKind.wrap Go.IntKind.i64 (Int.tdiv (Go.IntKind.wrap Go.IntKind.i64 (Int.tdiv (Go.IntKind.wrap Go.IntKind.i64 (Int.tdiv 32 2)) 2)) 2)) 2))) + List.getD xs 12 0) - 1))) [])))
                          (
                          br (!Decidable.decide (List.getD xs 12 0 ≤ Go.IntKind.wrap Go.IntKind.i64 (Int.tdiv 32 2)))
                            (
                            K (vi (0)) [])
                            (
                            K (vi (Go.IntKind.wrap Go.IntKind.i64 (Go.IntKind.wrap Go.IntKind.i64 (Go.IntKind.wrap Go.IntKind.i64 (Go.IntKind.wrap Go.IntKind.i64 (Go.IntKind.wrap Go.IntKind.i64 (Go.IntKind.wrap Go.IntKind.i64 (3 + List.getD xs 3 0) + Go.IntKind.wrap Go.IntKind.i64 (Int.tdiv (Go.IntKind.wrap Go.IntKind.i64 (List.getD xs 2 0 + 3)) 4)) + Go.IntKind.wrap Go.IntKind.i64 (5 * List.getD xs 2 0)) + Go.IntKind.wrap Go.IntKind.i64 (Go.IntKind.wrap Go.IntKind.i64 (Go.IntKind.wrap Go.IntKind.i64 (Go.IntKind.wrap Go.IntKind.i64 (Go.IntKind.wrap Go.IntKind.i64 (0 + 32) + Go.IntKind.wrap Go.IntKind.i64 (Int.tdiv 32 2)) + Go.IntKind.wrap Go.IntKind.i64 (Int.tdiv (Go.IntKind.wrap Go.IntKind.i64 (Int.tdiv 32 2)) 2)) + Go.IntKind.wrap Go.IntKind.i64 (Int.tdiv (Go.IntKind.wrap Go.IntKind.i64 (Int.tdiv (Go.IntKind.wrap Go.IntKind.i64 (Int.tdiv 32 2)) 2)) 2)) + Go.IntKind.wrap Go.IntKind.i64 (Int.tdiv (Go.IntKind.wrap Go.IntKind.i64 (Int.tdiv (Go.IntKind.wrap Go.IntKind.i64 (Int.tdiv (Go.IntKind.wrap Go.IntKind.i64 (Int.tdiv 32 2)) 2)) 2)) 2))) + List.getD xs 12 0) - 1))) [])))
                        (
                        br (!Decidable.decide (List.getD xs 12 0 ≤ 32))
                          (
                          K (vi (0)) [])
                          (
                          K (vi (Go.IntKind.wrap Go.IntKind.i64 (Go.IntKind.wrap Go.IntKind.i64 (Go.IntKind.wrap Go.IntKind.i64 (Go.IntKind.wrap Go.IntKind.i64 (Go.IntKind.wrap Go.IntKind.i64 (Go.IntKind.wrap Go.IntKind.i64 (3 + List.getD xs 3 0) + Go.IntKind.wrap Go.IntKind.i64 (Int.tdiv (Go.IntKind.wrap Go.IntKind.i64 (List.getD xs 2 0 + 3)) 4)) + Go.IntKind.wrap Go.IntKind.i64 (5 * List.getD xs 2 0)) + Go.IntKind.wrap Go.IntKind.i64 (Go.IntKind.wrap Go.IntKind.i64 (Go.IntKind.wrap Go.IntKind.i64 (Go.IntKind.wrap Go.IntKind.i64 (Go.IntKind.wrap Go.IntKind.i64 (0 + 32) + Go.IntKind.wrap Go.IntKind.i64 (Int.tdiv 32 2)) + Go.IntKind.wrap Go.IntKind.i64 (Int.tdiv (Go.IntKind.wrap Go.IntKind.i64 (Int.tdiv 32 2)) 2)) + Go.IntKind.wrap Go.IntKind.i64 (Int.tdiv (Go.IntKind.wrap Go.IntKind.i64 (Int.tdiv (Go.IntKind.wrap Go.IntKind.i64 (Int.tdiv 32 2)) 2)) 2)) + Go.IntKind.wrap Go.IntKind.i64 (Int.tdiv (Go.IntKind.wrap Go.IntKind.i64 (Int.tdiv (Go.IntKind.wrap Go.IntKind.i64 (Int.tdiv (Go.IntKind.wrap Go.IntKind.i64 (Int.tdiv 32 2)) 2)) 2)) 2))) + List.getD xs 12 0) - 1))) [])))
                      (
                      K (vi (0)) [])))
                  (
                  br (Decidable.decide (List.getD xs 12 0 ≥ 1))
                    (
                    br (Decidable.decide (0 < List.getD xs 11 0))
                      (
                      br (Decidable.decide (Go.IntKind.wrap Go.IntKind.i64 (0 + 1) < List.getD xs 11 0))
                        (
                        br (Decidable.decide (Go.IntKind.wrap Go.IntKind.i64 (Go.IntKind.wrap Go.IntKind.i64 (0 + 1) + 1) < List.getD xs 11 0))
                          (
                          br (Decidable.decide (Go.IntKind.wrap Go.IntKind.i64 (Go.IntKind.wrap Go.IntKind.i64 (Go.IntKind.wrap Go.IntKind.i64 (0 + 1) + 1) + 1) < List.getD xs 11 0))
                            (
                            br (Decidable.decide (Go.IntKind.wrap Go.IntKind.i64 (Go.IntKind.wrap Go.IntKind.i64 (Go.IntKind.wrap Go.IntKind.i64 (Go.IntKind.wrap Go.IntKind.i64 (0 + 1) + 1) + 1) + 1) < List.getD xs 11 0))
                              (
                              br (Decidable.decide (Go.IntKind.wrap Go.IntKind.i64 (Go.IntKind.wrap Go.IntKind.i64 (Go.IntKind.wrap Go.IntKind.i64 (Go.IntKind.wrap Go.IntKind.i64 (Go.IntKind.wrap Go.IntKind.i64 (0 + 1) + 1) + 1) + 1) + 1) < List.getD xs 11 0))
                                (
                                br (!Decidable.decide (List.getD xs 12 0 ≤ Go.IntKind.wrap Go.IntKind.i64 (Int.tdiv (Go.IntKind.wrap Go.IntKind.i64 (Int.tdiv (Go.IntKind.wrap Go.IntKind.i64 (Int.tdiv (Go.IntKind.wrap Go.IntKind.i64 (Int.tdiv (Go.IntKind.wrap Go.IntKind.i64 (Int.tdiv 32 2)) 2)) 2)) 2)) 2)))
                                  (
                                  K (vi (0)) [])
                                  (
                                  K (vi (Go.IntKind.wrap Go.IntKind.i64 (Go.IntKind.wrap Go.IntKind.i64 (Go.IntKind.wrap Go.IntKind.i64 (Go.IntKind.wrap Go.IntKind.i64 (Go.IntKind.wrap Go.IntKind.i64 (Go.IntKind.wrap Go.IntKind.i64 (3 + List.getD xs 3 0) + Go.IntKind.wrap Go.IntKind.i64 (Int.tdiv (Go.IntKind.wrap Go.IntKind.i64 (List.getD xs 2 0 + 3)) 4)) + Go.IntKind.wrap Go.IntKind.i64 (5 * List.getD xs 2 0)) + Go.IntKind.wrap Go.IntKind.i64 (Go.IntKind.wrap Go.IntKind.i64 (Go.IntKind.wrap Go.IntKind.i64 (Go.IntKind.wrap Go.IntKind.i64 (0 + 32) + Go.IntKind.wrap Go.IntKind.i64 (Int.tdiv 32 2)) + Go.IntKind.wrap Go.IntKind.i64 (Int.tdiv (Go.IntKind.wrap Go.IntKind.i64 (Int.tdiv 32 2)) 2)) + Go.IntKind.wrap Go.IntKind.i64 (Int.tdiv (Go.IntKind.wrap Go.IntKind.i64 (Int.tdiv (Go.IntKind.wrap Go.IntKind.i64 (Int.tdiv 32 2)) 2)) 2))) + List.getD xs 12 0) - 1))) []))
                                (
                                br (!Decidable.decide (List.getD xs 12 0 ≤ Go.IntKind.wrap Go.IntKind.i64 (Int.tdiv (Go.IntKind.wrap Go.IntKind.i64 (Int.tdiv (Go.IntKind.wrap Go.IntKind.i64 (Int.tdiv (Go.IntKind.wrap Go.IntKind.i64 (Int.tdiv (Go.IntKind.wrap Go.IntKind.i64 (Int.tdiv 32 2)) 2)) 2)) 2)) 2)))
                                  (
                                  K (vi (0)) [])
                                  (
                                  K (vi (Go.IntKind.wrap Go.IntKind.i64 (Go.IntKind.wrap Go.IntKind.i64 (Go.IntKind.wrap Go.IntKind.i64 (Go.IntKind.wrap Go.IntKind.i64 (Go.IntKind.wrap Go.IntKind.i64 (Go.IntKind.wrap Go.IntKind.i64 (3 + List.getD xs 3 0) + Go.IntKind.wrap Go.IntKind.i64 (Int.tdiv (Go.IntKind.wrap Go.IntKind.i64 (List.getD xs 2 0 + 3)) 4)) + Go.IntKind.wrap Go.IntKind.i64 (5 * List.getD xs 2 0)) + Go.IntKind.wrap Go.IntKind.i64 (Go.IntKind.wrap Go.IntKind.i64 (Go.IntKind.wrap Go.IntKind.i64 (Go.IntKind.wrap Go.IntKind.i64 (0 + 32) + Go.IntKind.wrap Go.IntKind.i64 (Int.tdiv 32 2)) + Go.IntKind.wrap Go.IntKind.i64 (Int.tdiv (Go.IntKind.wrap Go.IntKind.i64 (Int.tdiv 32 2)) 2)) + Go.IntKind.wrap Go.IntKind.i64 (Int.tdiv (Go.IntKind.wrap Go.IntKind.i64 (Int.tdiv (Go.IntKind.wrap Go.IntKind.i64 (Int.tdiv 32 2)) 2)) 2))) + List.getD xs 12 0) - 1))) [])))
                              (
                              br (!Decidable.decide (List.getD xs 12 0 ≤ Go.IntKind.wrap Go.IntKind.i64 (Int.tdiv (Go.IntKind.wrap Go.IntKind.i64 (Int.tdiv (Go.IntKind.wrap Go.IntKind.i64 (Int.tdiv (Go.IntKind.wrap Go.IntKind.i64 (Int.tdiv 32 2)) 2)) 2)) 2)))
                                (
                                K (vi (0)) [])
                                (
                                K (vi (Go.IntKind.wrap Go.IntKind.i64 (Go.IntKind.wrap Go.IntKind.i64 (Go.IntKind.wrap Go.IntKind.i64 (Go.IntKind.wrap Go.IntKind.i64 (Go.IntKind.wrap Go.IntKind.i64 (Go.IntKind.wrap Go.IntKind.i64 (3 + List.getD xs 3 0) + Go.IntKind.wrap Go.IntKind.i64 (Int.tdiv (Go.IntKind.wrap Go.IntKind.i64 (List.getD xs 2 0 + 3)) 4)) + Go.IntKind.wrap Go.IntKind.i64 (5 * List.getD xs 2 0)) + Go.IntKind.wrap Go.IntKind.i64 (Go.IntKind.wrap Go.IntKind.i64 (Go.IntKind.wrap Go.IntKind.i64 (Go.IntKind.wrap Go.IntKind.i64 (0 + 32) + Go.IntKind.wrap Go.IntKind.i64 (Int.tdiv 32 2)) + Go.IntKind.wrap Go.IntKind.i64 (Int.tdiv (Go.IntKind.wrap Go.IntKind.i64 (Int.tdiv 32 2)) 2)) + Go.IntKind.wrap Go.IntKind.i64 (Int.tdiv (Go.IntKind.wrap Go.IntKind.i64 (Int.tdiv (Go.IntKind.wrap Go.IntKind.i64 (Int.tdiv 32 2)) 2)) 2))) + List.getD xs 12 0) - 1))) [])))
                            (
                            br (!Decidable.decide (List.getD xs 12 0 ≤ Go.IntKind.wrap Go.IntKind.i64 (Int.tdiv (Go.IntKind.wrap Go.IntKind.i64 (Int.tdiv (Go.IntKind.wrap Go.IntKind.i64 (Int.tdiv 32 2)) 2)) 2)))
                              (
                              K (vi (0)) [])
                              (
                              K (vi (Go.IntKind.wrap Go.IntKind.i64 (Go.IntKind.wrap Go.IntKind.i64 (Go.IntKind.wrap Go.IntKind.i64 (Go.IntKind.wrap Go.IntKind.i64 (Go.IntKind.wrap Go.IntKind.i64 (Go.IntKind.wrap Go.IntKind.i64 (3 + List.getD xs 3 0) + Go.IntKind.wrap Go.IntKind.i64 (Int.tdiv (Go.IntKind.wrap Go.IntKind.i64 (List.getD xs 2 0 + 3)) 4)) + Go.IntKind.wrap Go.IntKind.i64 (5 * List.getD xs 2 0)) + Go.IntKind.wrap Go.IntKind.i64 (Go.IntKind.wrap Go.IntKind.i64 (Go.IntKind.wrap Go.IntKind.i64 (Go.IntKind.wrap Go.IntKind.i64 (0 + 32) + Go.IntKind.wrap Go.IntKind.i64 (Int.tdiv 32 2)) + Go.IntKind.wrap Go.IntKind.i64 (Int.tdiv (Go.IntKind.wrap Go.IntKind.i64 (Int.tdiv 32 2)) 2)) + Go.IntKind.wrap Go.IntKind.i64 (Int.tdiv (Go.IntKind.wrap Go.IntKind.i64 (Int.tdiv (Go.IntKind.wrap Go.IntKind.i64 (Int.tdiv 32 2)) 2)) 2))) + List.getD xs 12 0) - 1))) [])))
                          (
                          br (!Decidable.decide (List.getD xs 12 0 ≤ Go.IntKind.wrap Go.IntKind.i64 (Int.tdiv (Go.IntKind.wrap Go.IntKind.i64 (Int.tdiv 32 2)) 2)))
                            (
                            K (vi (0)) [])
                            (
                            K (vi (Go.IntKind.wrap Go.IntKind.i64 (Go.IntKind.wrap Go.IntKind.i64 (Go.IntKind.wrap Go.IntKind.i64 (Go.IntKind.wrap Go.IntKind.i64 (Go.IntKind.wrap Go.IntKind.i64 (Go.IntKind.wrap Go.IntKind.i64 (3 + List.getD xs 3 0) + Go.IntKind.wrap Go.IntKind.i64 (Int.tdiv (Go.IntKind.wrap Go.IntKind.i64 (List.getD xs 2 0 + 3)) 4)) + Go.IntKind.wrap Go.IntKind.i64 (5 * List.getD xs 2 0)) + Go.IntKind.wrap Go.IntKind.i64 (Go.IntKind.wrap Go.IntKind.i64 (Go.IntKind.wrap Go.IntKind.i64 (Go.IntKind.wrap Go.IntKind.i64 (0 + 32) + Go.IntKind.wrap Go.IntKind.i64 (Int.tdiv 32 2)) + Go.IntKind.wrap Go.IntKind.i64 (Int.tdiv (Go.IntKind.wrap Go.IntKind.i64 (Int.tdiv 32 2)) 2)) + Go.IntKind.wrap Go.IntKind.i64 (Int.tdiv (Go.IntKind.wrap Go.IntKind.i64 (Int.tdiv (Go.IntKind.wrap Go.IntKind.i64 (Int.tdiv 32 2)) 2)) 2))) + List.getD xs 12 0) - 1))) [])))
                        (
                        br (!Decidable.decide (List.getD xs 12 0 ≤ Go.IntKind.wrap Go.IntKind.i64 (Int.tdiv 32 2)))
                          (
                          K (vi (0)) [])
                          (
                          K (vi (Go.IntKind.wrap Go.IntKind.i64 (Go.IntKind.wrap Go.IntKind.i64 (Go.IntKind.wrap Go.IntKind.i64 (Go.IntKind.wrap Go.IntKind.i64 (Go.IntKind.wrap Go.IntKind.i64 (Go.IntKind.wrap Go.IntKind.i64 (3 + List.getD xs 3 0) + Go.IntKind.wrap Go.IntKind.i64 (Int.tdiv (Go.IntKind.wrap Go.IntKind.i64 (List.getD xs 2 0 + 3)) 4)) + Go.IntKind.wrap Go.IntKind.i64 (5 * List.getD xs 2 0)) + Go.IntKind.wrap Go.IntKind.i64 (Go.IntKind.wrap Go.IntKind.i64 (Go.IntKind.wrap Go.IntKind.i64 (Go.IntKind.wrap Go.IntKind.i64 (0 + 32) + Go.IntKind.wrap Go.IntKind.i64 (Int.tdiv 32 2)) + Go.IntKind.wrap Go.IntKind.i64 (Int.tdiv (Go.IntKind.wrap Go.IntKind.i64 (Int.tdiv 32 2)) 2)) + Go.IntKind.wrap Go.IntKind.i64 (Int.tdiv (Go.IntKind.wrap Go.IntKind.i64 (Int.tdiv (Go.IntKind.wrap Go.IntKind.i64 (Int.tdiv 32 2)) 2)) 2))) + List.getD xs 12 0) - 1))) [])))
                      (
                      br (!Decidable.decide (List.getD xs 12 0 ≤ 32))
                        (
                        K (vi (0)) [])
                        (
                        K (vi (Go.IntKind.wrap Go.IntKind.i64 (Go.IntKind.wrap Go.IntKind.i64 (Go.IntKind.wrap Go.IntKind.i64 (Go.IntKind.wrap Go.IntKind.i64 (Go.IntKind.wrap Go.IntKind.i64 (Go.IntKind.wrap Go.IntKind.i64 (3 + List.getD xs 3 0) + Go.IntKind.wrap Go.IntKind.i64 (Int.tdiv (Go.IntKind.wrap Go.IntKind.i64 (List.getD xs 2 0 + 3)) 4)) + Go.IntKind.wrap Go.IntKind.i64 (5 * List.getD xs 2 0)) + Go.IntKind.wrap Go.IntKind.i64 (Go.IntKind.wrap Go.IntKind.i64 (Go.IntKind.wrap Go.IntKind.i64 (Go.IntKind.wrap Go.IntKind.i64 (0 + 32) + Go.IntKind.wrap Go.IntKind.i64 (Int.tdiv 32 2)) + Go.IntKind.wrap Go.IntKind.i64 (Int.tdiv (Go.IntKind.wrap Go.IntKind.i64 (Int.tdiv 32 2)) 2)) + Go.IntKind.wrap Go.IntKind.i64 (Int.tdiv (Go.IntKind.wrap Go.IntKind.i64 (Int.tdiv (Go.IntKind.wrap Go.IntKind.i64 (Int.tdiv 32 2)) 2)) 2))) + List.getD xs 12 0) - 1))) [])))
                    (
                    K (vi (0)) [])))
                (
                br (Decidable.decide (List.getD xs 12 0 ≥ 1))
                  (
                  br (Decidable.decide (0 < List.getD xs 11 0))
                    (
                    br (Decidable.decide (Go.IntKind.wrap Go.IntKind.i64 (0 + 1) < List.getD xs 11 0))
                      (
                      br (Decidable.decide (Go.IntKind.wrap Go.IntKind.i64 (Go.IntKind.wrap Go.IntKind.i64 (0 + 1) + 1) < List.getD xs 11 0))
                        (
                        br (Decidable.decide (Go.IntKind.wrap Go.IntKind.i64 (Go.IntKind.wrap Go.IntKind.i64 (Go.IntKind.wrap Go.IntKind.i64 (0 + 1) + 1) + 1) < List.getD xs 11 0))
                          (
                          br (Decidable.decide (Go.IntKind.wrap Go.IntKind.i64 (Go.IntKind.wrap Go.IntKind.i64 (Go.IntKind.wrap Go.IntKind.i64 (Go.IntKind.wrap Go.IntKind.i64 (0 + 1) + 1) + 1) + 1) < List.getD xs 11 0))
                            (
                            br (Decidable.decide (Go.IntKind.wrap Go.IntKind.i64 (Go.IntKind.wrap Go.IntKind.i64 (Go.IntKind.wrap Go.IntKind.i64 (Go.IntKind.wrap Go.IntKind.i64 (Go.IntKind.wrap Go.IntKind.i64 (0 + 1) + 1) + 1) + 1) + 1) < List.getD xs 11 0))
                              (
                              br (!Decidable.decide (List.getD xs 12 0 ≤ Go.IntKind.wrap Go.IntKind.i64 (Int.tdiv (Go.IntKind.wrap Go.IntKind.i64 (Int.tdiv (Go.IntKind.wrap Go.IntKind.i64 (Int.tdiv (Go.IntKind.wrap Go.IntKind.i64 (Int.tdiv (Go.IntKind.wrap Go.IntKind.i64 (Int.tdiv 32 2)) 2)) 2)) 2)) 2)))
                                (
                                K (vi (0)) [])
                                (
                                K (vi (Go.IntKind.wrap Go.IntKind.i64 (Go.IntKind.wrap Go.IntKind.i64 (Go.IntKind.wrap Go.IntKind.i64 (Go.IntKind.wrap Go.IntKind.i64 (Go.IntKind.wrap Go.IntKind.i64 (Go.IntKind.wrap Go.IntKind.i64 (3 + List.getD xs 3 0) + Go.IntKind.wrap Go.IntKind.i64 (Int.tdiv (Go.IntKind.wrap Go.IntKind.i64 (List.getD xs 2 0 + 3)) 4)) + Go.IntKind.wrap Go.IntKind.i64 (5 * List.getD xs 2 0)) + Go.IntKind.wrap Go.IntKind.i64 (Go.IntKind.wrap Go.IntKind.i64 (Go.IntKind.wrap Go.IntKind.i64 (0 + 32) + Go.IntKind.wrap Go.IntKind.i64 (Int.tdiv 32 2)) + Go.IntKind.wrap Go.IntKind.i64 (Int.tdiv (Go.IntKind.wrap Go.IntKind.i64 (Int.tdiv 32 2)) 2))) + List.getD xs 12 0) - 1))) []))
                              (
                              br (!Decidable.decide (List.getD xs 12 0 ≤ Go.IntKind.wrap Go.IntKind.i64 (Int.tdiv (Go.IntKind.wrap Go.IntKind.i64 (Int.tdiv (Go.IntKind.wrap Go.IntKind.i64 (Int.tdiv (Go.IntKind.wrap Go.IntKind.i64 (Int.tdiv (Go.IntKind.wrap Go.IntKind.i64 (Int.tdiv 32 2)) 2)) 2)) 2)) 2)))
                                (
                                K (vi (0)) [])
                                (
                                K (vi (Go.IntKind.wrap Go.IntKind.i64 (Go.IntKind.wrap Go.IntKind.i64 (Go.IntKind.wrap Go.IntKind.i64 (Go.IntKind.wrap Go.IntKind.i64 (Go.IntKind.wrap Go.IntKind.i64 (Go.IntKind.wrap Go.IntKind.i64 (3 + List.getD xs 3 0) + Go.IntKind.wrap Go.IntKind.i64 (Int.tdiv (Go.IntKind.wrap Go.IntKind.i64 (List.getD xs 2 0 + 3)) 4)) + Go.IntKind.wrap Go.IntKind.i64 (5 * List.getD xs 2 0)) + Go.IntKind.wrap Go.IntKind.i64 (Go.IntKind.wrap Go.IntKind.i64 (Go.IntKind.wrap Go.IntKind.i64 (0 + 32) + Go.IntKind.wrap Go.IntKind.i64 (Int.tdiv 32 2)) + Go.IntKind.wrap Go.IntKind.i64 (Int.tdiv (Go.IntKind.wrap Go.IntKind.i64 (Int.tdiv 32 2)) 2))) + List.getD xs 12 0) - 1))) [])))
                            (
                            br (!Decidable.decide (List.getD xs 12 0 ≤ Go.IntKind.wrap Go.IntKind.i64 (Int.tdiv (Go.IntKind.wrap Go.IntKind.i64 (Int.tdiv (Go.IntKind.wrap Go.IntKind.i64 (Int.tdiv (Go.IntKind.wrap Go.IntKind.i64 (Int.tdiv 32 2)) 2)) 2)) 2)))
                              (
                              K (vi (0)) [])
                              (
                              K (vi (Go.IntKind.wrap Go.IntKind.i64 (Go.IntKind.wrap Go.IntKind.i64 (Go.IntKind.wrap Go.IntKind.i64 (Go.IntKind.wrap Go.IntKind.i64 (Go.IntKind.wrap Go.IntKind.i64 (Go.IntKind.wrap Go.IntKind.i64 (3 + List.getD xs 3 0) + Go.IntKind.wrap Go.IntKind.i64 (Int.tdiv (Go.IntKind.wrap Go.IntKind.i64 (List.getD xs 2 0 + 3)) 4)) + Go.IntKind.wrap Go.IntKind.i64 (5 * List.getD xs 2 0)) + Go.IntKind.wrap Go.IntKind.i64 (Go.IntKind.wrap Go.IntKind.i64 (Go.IntKind.wrap Go.IntKind.i64 (0 + 32) + Go.IntKind.wrap Go.IntKind.i64 (Int.tdiv 32 2)) + Go.IntKind.wrap Go.IntKind.i64 (Int.tdiv (Go.IntKind.wrap Go.IntKind.i64 (Int.tdiv 32 2)) 2))) + List.getD xs 12 0) - 1))) [])))
                          (
                          br (!Decidable.decide (List.getD xs 12 0 ≤ Go.IntKind.wrap Go.IntKind.i64 (Int.tdiv (Go.IntKind.wrap Go.IntKind.i64 (Int.tdiv (Go.IntKind.wrap Go.IntKind.i64 (Int.tdiv 32 2)) 2)) 2)))
                            (
                            K (vi (0)) [])
                            (
                            K (vi (Go.IntKind.wrap Go.IntKind.i64 (Go.IntKind.wrap Go.IntKind.i64 (Go.IntKind.wrap Go.IntKind.i64 (Go.IntKind.wrap Go.IntKind.i64 (Go.IntKind.wrap Go.IntKind.i64 (Go.IntKind.wrap Go.IntKind.i64 (3 + List.getD xs 3 0) + Go.IntKind.wrap Go.IntKind.i64 (Int.tdiv (Go.IntKind.wrap Go.IntKind.i64 (List.getD xs 2 0 + 3)) 4)) + Go.IntKind.wrap Go.IntKind.i64 (5 * List.getD xs 2 0)) + Go.IntKind.wrap Go.IntKind.i64 (Go.IntKind.wrap Go.IntKind.i64 (Go.IntKind.wrap Go.IntKind.i64 (0 + 32) + Go.IntKind.wrap Go.IntKind.i64 (Int.tdiv 32 2)) + Go.IntKind.wrap Go.IntKind.i64 (Int.tdiv (Go.IntKind.wrap Go.IntKind.i64 (Int.tdiv 32 2)) 2))) + List.getD xs 12 0) - 1))) [])))
                        (
                        br (!Decidable.decide (List.getD xs 12 0 ≤ Go.IntKind.wrap Go.IntKind.i64 (Int.tdiv (Go.IntKind.wrap Go.IntKind.i64 (Int.tdiv 32 2)) 2)))
                          (
                          K (vi (0)) [])
                          (
                          K (vi (Go.IntKind.wrap Go.IntKind.i64 (Go.IntKind.wrap Go.IntKind.i64 (Go.IntKind.wrap Go.IntKind.i64 (Go.IntKind.wrap Go.IntKind.i64 (Go.IntKind.wrap Go.IntKind.i64 (Go.IntKind.wrap Go.IntKind.i64 (3 + List.getD xs 3 0) + Go.IntKind.wrap Go.IntKind.i64 (Int.tdiv (Go.IntKind.wrap Go.IntKind.i64 (List.getD xs 2 0 + 3)) 4)) + Go.IntKind.wrap Go.IntKind.i64 (5 * List.getD xs 2 0)) + Go.IntKind.wrap Go.IntKind.i64 (Go.IntKind.wrap Go.IntKind.i64 (Go.IntKind.wrap Go.IntKind.i64 (0 + 32) + Go.IntKind.wrap Go.IntKind.i64 (Int.tdiv 32 2)) + Go.IntKind.wrap Go.IntKind.i64 (Int.tdiv (Go.IntKind.wrap Go.IntKind.i64 (Int.tdiv 32 2)) 2))) + List.getD xs 12 0) - 1))) [])))
                      (
                      br (!Decidable.decide (List.getD xs 12 0 ≤ Go.IntKind.wrap Go.IntKind.i64 (Int.tdiv 32 2)))
                        (
                        K (vi (0)) [])
                        (
                        K (vi (Go.IntKind.wrap Go.IntKind.i64 (Go.IntKind.wrap Go.IntKind.i64 (Go.IntKind.wrap Go.IntKind.i64 (Go.IntKind.wrap Go.IntKind.i64 (Go.IntKind.wrap Go.IntKind.i64 (Go.IntKind.wrap Go.IntKind.i64 (3 + List.getD xs 3 0) + Go.IntKind.wrap Go.IntKind.i64 (Int.tdiv (Go.IntKind.wrap Go.IntKind.i64 (List.getD xs 2 0 + 3)) 4)) + Go.IntKind.wrap Go.IntKind.i64 (5 * List.getD xs 2 0)) + Go.IntKind.wrap Go.IntKind.i64 (Go.IntKind.wrap Go.IntKind.i64 (Go.IntKind.wrap Go.IntKind.i64 (0 + 32) + Go.IntKind.wrap Go.IntKind.i64 (Int.tdiv 32 2)) + Go.IntKind.wrap Go.IntKind.i64 (Int.tdiv (Go.IntKind.wrap Go.IntKind.i64 (Int.tdiv 32 2)) 2))) + List.getD xs 12 0) - 1))) [])))
                    (
                    br (!Decidable.decide (List.getD xs 12 0 ≤ 32))
                      (
                      K (vi (0)) [])
                      (
                      K (vi (Go.IntKind.wrap Go.IntKind.i64 (Go.IntKind.wrap Go.IntKind.i64 (Go.IntKind.wrap Go.IntKind.i64 (Go.IntKind.wrap Go.IntKind.i64 (Go.IntKind.wrap Go.IntKind.i64 (Go.IntKind.wrap Go.IntKind.i64 (3 + List.getD xs 3 0) + Go.IntKind.wrap Go.IntKind.i64 (Int.tdiv (Go.IntKind.wrap Go.IntKind.i64 (List.getD xs 2 0 + 3)) 4)) + Go.IntKind.wrap Go.IntKind.i64 (5 * List.getD xs 2 0)) + Go.IntKind.wrap Go.IntKind.i64 (Go.IntKind.wrap Go.IntKind.i64 (Go.IntKind.wrap Go.IntKind.i64 (0 + 32) + Go.IntKind.wrap Go.IntKind.i64 (Int.tdiv 32 2)) + Go.IntKind.wrap Go.IntKind.i64 (Int.tdiv (Go.IntKind.wrap Go.IntKind.i64 (Int.tdiv 32 2)) 2))) + List.getD xs 12 0) - 1))) [])))
                  (
                  K (vi (0)) [])))
              (
              br (Decidable.decide (List.getD xs 12 0 ≥ 1))
                (
                br (Decidable.decide (0 < List.getD xs 11 0))
                  (
                  br (Decidable.decide (Go.IntKind.wrap Go.IntKind.i64 (0 + 1) < List.getD xs 11 0))
                    (
                    br (Decidable.decide (Go.IntKind.wrap Go.IntKind.i64 (Go.IntKind.wrap Go.IntKind.i64 (0 + 1) + 1) < List.getD xs 11 0))
                      (
                      br (Decidable.decide (Go.IntKind.wrap Go.IntKind.i64 (Go.IntKind.wrap Go.IntKind.i64 (Go.IntKind.wrap Go.IntKind.i64 (0 + 1) + 1) + 1) < List.getD xs 11 0))
                        (
                        br (Decidable.decide (Go.IntKind.wrap Go.IntKind.i64 (Go.IntKind.wrap Go.IntKind.i64 (Go.IntKind.wrap Go.IntKind.i64 (Go.IntKind.wrap Go.IntKind.i64 (0 + 1) + 1) + 1) + 1) < List.getD xs 11 0))
                          (
                          br (Decidable.decide (Go.IntKind.wrap Go.IntKind.i64 (Go.IntKind.wrap Go.IntKind.i64 (Go.IntKind.wrap Go.IntKind.i64 (Go.IntKind.wrap Go.IntKind.i64 (Go.IntKind.wrap Go.IntKind.i64 (0 + 1) + 1) + 1) + 1) + 1) < List.getD xs 11 0))
                            (
                            br (!Decidable.decide (List.getD xs 12 0 ≤ Go.IntKind.wrap Go.IntKind.i64 (Int.tdiv (Go.IntKind.wrap Go.IntKind.i64 (Int.tdiv (Go.IntKind.wrap Go.IntKind.i64 (Int.tdiv (Go.IntKind.wrap Go.IntKind.i64 (Int.tdiv (Go.IntKind.wrap Go.IntKind.i64 (Int.tdiv 32 2)) 2)) 2)) 2)) 2)))
                              (
                              K (vi (0)) [])
                              (
                              K (vi (Go.IntKind.wrap Go.IntKind.i64 (Go.IntKind.wrap Go.IntKind.i64 (Go.IntKind.wrap Go.IntKind.i64 (Go.IntKind.wrap Go.IntKind.i64 (Go.IntKind.wrap Go.IntKind.i64 (Go.IntKind.wrap Go.IntKind.i64 (3 + List.getD xs 3 0) + Go.IntKind.wrap Go.IntKind.i64 (Int.tdiv (Go.IntKind.wrap Go.IntKind.i64 (List.getD xs 2 0 + 3)) 4)) + Go.IntKind.wrap Go.IntKind.i64 (5 * List.getD xs 2 0)) + Go.IntKind.wrap Go.IntKind.i64 (Go.IntKind.wrap Go.IntKind.i64 (0 + 32) + Go.IntKind.wrap Go.IntKind.i64 (Int.tdiv 32 2))) + List.getD xs 12 0) - 1))) []))
                            (
                            br (!Decidable.decide (List.getD xs 12 0 ≤ Go.IntKind.wrap Go.IntKind.i64 (Int.tdiv (Go.IntKind.wrap Go.IntKind.i64 (Int.tdiv (Go.IntKind.wrap Go.IntKind.i64 (Int.tdiv (Go.IntKind.wrap Go.IntKind.i64 (Int.tdiv (Go.IntKind.wrap Go.IntKind.i64 (Int.tdiv 32 2)) 2)) 2)) 2)) 2)))
                              (
                              K (vi (0)) [])
                              (
                              K (vi (Go.IntKind.wrap Go.IntKind.i64 (Go.IntKind.wrap Go.IntKind.i64 (Go.IntKind.wrap Go.IntKind.i64 (Go.IntKind.wrap Go.IntKind.i64 (Go.IntKind.wrap Go.IntKind.i64 (Go.IntKind.wrap Go.IntKind.i64 (3 + List.getD xs 3 0) + Go.IntKind.wrap Go.IntKind.i64 (Int.tdiv (Go.IntKind.wrap Go.IntKind.i64 (List.getD xs 2 0 + 3)) 4)) + Go.IntKind.wrap Go.IntKind.i64 (5 * List.getD xs 2 0)) + Go.IntKind.wrap Go.IntKind.i64 (Go.IntKind.wrap Go.IntKind.i64 (0 + 32) + Go.IntKind.wrap Go.IntKind.i64 (Int.tdiv 32 2))) + List.getD xs 12 0) - 1))) [])))
                          (
                          br (!Decidable.decide (List.getD xs 12 0 ≤ Go.IntKind.wrap Go.IntKind.i64 (Int.tdiv (Go.IntKind.wrap Go.IntKind.i64 (Int.tdiv (Go.IntKind.wrap Go.IntKind.i64 (Int.tdiv (Go.IntKind.wrap Go.IntKind.i64 (Int.tdiv 32 2)) 2)) 2)) 2)))
                            (
                            K (vi (0)) [])
                            (
                            K (vi (Go.IntKind.wrap Go.IntKind.i64 (Go.IntKind.wrap Go.IntKind.i64 (Go.IntKind.wrap Go.IntKind.i64 (Go.IntKind.wrap Go.IntKind.i64 (Go.IntKind.wrap Go.IntKind.i64 (Go.IntKind.wrap Go.IntKind.i64 (3 + List.getD xs 3 0) + Go.IntKind.wrap Go.IntKind.i64 (Int.tdiv (Go.IntKind.wrap Go.IntKind.i64 (List.getD xs 2 0 + 3)) 4)) + Go.IntKind.wrap Go.IntKind.i64 (5 * List.getD xs 2 0)) + Go.IntKind.wrap Go.IntKind.i64 (Go.IntKind.wrap Go.IntKind.i64 (0 + 32) + Go.IntKind.wrap Go.IntKind.i64 (Int.tdiv 32 2))) + List.getD xs 12 0) - 1))) [])))
                        (
                        br (!Decidable.decide (List.getD xs 12 0 ≤ Go.IntKind.wrap Go.IntKind.i64 (Int.tdiv (Go.IntKind.wrap Go.IntKind.i64 (Int.tdiv (Go.IntKind.wrap Go.IntKind.i64 (Int.tdiv 32 2)) 2)) 2)))
                          (
                          K (vi (0)) [])
                          (
                          K (vi (Go.IntKind.wrap Go.IntKind.i64 (Go.IntKind.wrap Go.IntKind.i64 (Go.IntKind.wrap Go.IntKind.i64 (Go.IntKind.wrap Go.IntKind.i64 (Go.IntKind.wrap Go.IntKind.i64 (Go.IntKind.wrap Go.IntKind.i64 (3 + List.getD xs 3 0) + Go.IntKind.wrap Go.IntKind.i64 (Int.tdiv (Go.IntKind.wrap Go.IntKind.i64 (List.getD xs 2 0 + 3)) 4)) + Go.IntKind.wrap Go.IntKind.i64 (5 * List.getD xs 2 0)) + Go.IntKind.wrap Go.IntKind.i64 (Go.IntKind.wrap Go.IntKind.i64 (0 + 32) + Go.IntKind.wrap Go.IntKind.i64 (Int.tdiv 32 2))) + List.getD xs 12 0) - 1))) [])))
                      (
                      br (!Decidable.decide (List.getD xs 12 0 ≤ Go.IntKind.wrap Go.IntKind.i64 (Int.tdiv (Go.IntKind.wrap Go.IntKind.i64 (Int.tdiv 32 2)) 2)))
                        (
                        K (vi (0)) [])
                        (
                        K (vi (Go.IntKind.wrap Go.IntKind.i64 (Go.IntKind.wrap Go.IntKind.i64 (Go.IntKind.wrap Go.IntKind.i64 (Go.IntKind.wrap Go.IntKind.i64 (Go.IntKind.wrap Go.IntKind.i64 (Go.IntKind.wrap Go.IntKind.i64 (3 + List.getD xs 3 0) + Go.IntKind.wrap Go.IntKind.i64 (Int.tdiv (Go.IntKind.wrap Go.IntKind.i64 (List.getD xs 2 0 + 3)) 4)) + Go.IntKind.wrap Go.IntKind.i64 (5 * List.getD xs 2 0)) + Go.IntKind.wrap Go.IntKind.i64 (Go.IntKind.wrap Go.IntKind.i64 (0 + 32) + Go.IntKind.wrap Go.IntKind.i64 (Int.tdiv 32 2))) + List.getD xs 12 0) - 1))) [])))
                    (
                    br (!Decidable.decide (List.getD xs 12 0 ≤ Go.IntKind.wrap Go.IntKind.i64 (Int.tdiv 32 2)))
                      (
                      K (vi (0)) [])
                      (
                      K (vi (Go.IntKind.wrap Go.IntKind.i64 (Go.IntKind.wrap Go.IntKind.i64 (Go.IntKind.wrap Go.IntKind.i64 (Go.IntKind.wrap Go.IntKind.i64 (Go.IntKind.wrap Go.IntKind.i64 (Go.IntKind.wrap Go.IntKind.i64 (3 + List.getD xs 3 0) + Go.IntKind.wrap Go.IntKind.i64 (Int.tdiv (Go.IntKind.wrap Go.IntKind.i64 (List.getD xs 2 0 + 3)) 4)) + Go.IntKind.wrap Go.IntKind.i64 (5 * List.getD xs 2 0)) + Go.IntKind.wrap Go.IntKind.i64 (Go.IntKind.wrap Go.IntKind.i64 (0 + 32) + Go.IntKind.wrap Go.IntKind.i64 (Int.tdiv 32 2))) + List.getD xs 12 0) - 1))) [])))
                  (
                  br (!Decidable.decide (List.getD xs 12 0 ≤ 32))
                    (
                    K (vi (0)) [])
                    (
                    K (vi (Go.IntKind.wrap Go.IntKind.i64 (Go.IntKind.wrap Go.IntKind.i64 (Go.IntKind.wrap Go.IntKind.i64 (Go.IntKind.wrap Go.IntKind.i64 (Go.IntKind.wrap Go.IntKind.i64 (Go.IntKind.wrap Go.IntKind.i64 (3 + List.getD xs 3 0) + Go.IntKind.wrap Go.IntKind.i64 (Int.tdiv (Go.IntKind.wrap Go.IntKind.i64 (List.getD xs 2 0 + 3)) 4)) + Go.IntKind.wrap Go.IntKind.i64 (5 * List.getD xs 2 0)) + Go.IntKind.wrap Go.IntKind.i64 (Go.IntKind.wrap Go.IntKind.i64 (0 + 32) + Go.IntKind.wrap Go.IntKind.i64 (Int.tdiv 32 2))) + List.getD xs 12 0) - 1))) [])))
                (
                K (vi (0)) [])))
            (
            br (Decidable.decide (List.getD xs 12 0 ≥ 1))
              (
              br (Decidable.decide (0 < List.getD xs 11 0))
                (
                br (Decidable.decide (Go.IntKind.wrap Go.IntKind.i64 (0 + 1) < List.getD xs 11 0))
                  (
                  br (Decidable.decide (Go.IntKind.wrap Go.IntKind.i64 (Go.IntKind.wrap Go.IntKind.i64 (0 + 1) + 1) < List.getD xs 11 0))
                    (
                    br (Decidable.decide (Go.IntKind.wrap Go.IntKind.i64 (Go.IntKind.wrap Go.IntKind.i64 (Go.IntKind.wrap Go.IntKind.i64 (0 + 1) + 1) + 1) < List.getD xs 11 0))
                      (
                      br (Decidable.decide (Go.IntKind.wrap Go.IntKind.i64 (Go.IntKind.wrap Go.IntKind.i64 (Go.IntKind.wrap Go.IntKind.i64 (Go.IntKind.wrap Go.IntKind.i64 (0 + 1) + 1) + 1) + 1) < List.getD xs 11 0))
                        (
                        br (Decidable.decide (Go.IntKind.wrap Go.IntKind.i64 (Go.IntKind.wrap Go.IntKind.i64 (Go.IntKind.wrap Go.IntKind.i64 (Go.IntKind.wrap Go.IntKind.i64 (Go.IntKind.wrap Go.IntKind.i64 (0 + 1) + 1) + 1) + 1) + 1) < List.getD xs 11 0))
                          (
                          br (!Decidable.decide (List.getD xs 12 0 ≤ Go.IntKind.wrap Go.IntKind.i64 (Int.tdiv (Go.IntKind.wrap Go.IntKind.i64 (Int.tdiv (Go.IntKind.wrap Go.IntKind.i64 (Int.tdiv (Go.IntKind.wrap Go.IntKind.i64 (Int.tdiv (Go.IntKind.wrap Go.IntKind.i64 (Int.tdiv 32 2)) 2)) 2)) 2)) 2)))
                            (
                            K (vi (0)) [])
                            (
                            K (vi (Go.IntKind.wrap Go.IntKind.i64 (Go.IntKind.wrap Go.IntKind.i64 (Go.IntKind.wrap Go.IntKind.i64 (Go.IntKind.wrap Go.IntKind.i64 (Go.IntKind.wrap Go.IntKind.i64 (Go.IntKind.wrap Go.IntKind.i64 (3 + List.getD xs 3 0) + Go.IntKind.wrap Go.IntKind.i64 (Int.tdiv (Go.IntKind.wrap Go.IntKind.i64 (List.getD xs 2 0 + 3)) 4)) + Go.IntKind.wrap Go.IntKind.i64 (5 * List.getD xs 2 0)) + Go.IntKind.wrap Go.IntKind.i64 (0 + 32)) + List.getD xs 12 0) - 1))) []))
                          (
                          br (!Decidable.decide (List.getD xs 12 0 ≤ Go.IntKind.wrap Go.IntKind.i64 (Int.tdiv (Go.IntKind.wrap Go.IntKind.i64 (Int.tdiv (Go.IntKind.wrap Go.IntKind.i64 (Int.tdiv (Go.IntKind.wrap Go.IntKind.i64 (Int.tdiv (Go.IntKind.wrap Go.IntKind.i64 (Int.tdiv 32 2)) 2)) 2)) 2)) 2)))
                            (
                            K (vi (0)) [])
                            (
                            K (vi (Go.IntKind.wrap Go.IntKind.i64 (Go.IntKind.wrap Go.IntKind.i64 (Go.IntKind.wrap Go.IntKind.i64 (Go.IntKind.wrap Go.IntKind.i64 (Go.IntKind.wrap Go.IntKind.i64 (Go.IntKind.wrap Go.IntKind.i64 (3 + List.getD xs 3 0) + Go.IntKind.wrap Go.IntKind.i64 (Int.tdiv (Go.IntKind.wrap Go.IntKind.i64 (List.getD xs 2 0 + 3)) 4)) + Go.IntKind.wrap Go.IntKind.i64 (5 * List.getD xs 2 0)) + Go.IntKind.wrap Go.IntKind.i64 (0 + 32)) + List.getD xs 12 0) - 1))) [])))
                        (
                        br (!Decidable.decide (List.getD xs 12 0 ≤ Go.IntKind.wrap Go.IntKind.i64 (Int.tdiv (Go.IntKind.wrap Go.IntKind.i64 (Int.tdiv (Go.IntKind.wrap Go.IntKind.i64 (Int.tdiv (Go.IntKind.wrap Go.IntKind.i64 (Int.tdiv 32 2)) 2)) 2)) 2)))
                          (
                          K (vi (0)) [])
                          (
                          K (vi (Go.IntKind.wrap Go.IntKind.i64 (Go.IntKind.wrap Go.IntKind.i64 (Go.IntKind.wrap Go.IntKind.i64 (Go.IntKind.wrap Go.IntKind.i64 (Go.IntKind.wrap Go.IntKind.i64 (Go.IntKind.wrap Go.IntKind.i64 (3 + List.getD xs 3 0) + Go.IntKind.wrap Go.IntKind.i64 (Int.tdiv (Go.IntKind.wrap Go.IntKind.i64 (List.getD xs 2 0 + 3)) 4)) + Go.IntKind.wrap Go.IntKind.i64 (5 * List.getD xs 2 0)) + Go.IntKind.wrap Go.IntKind.i64 (0 + 32)) + List.getD xs 12 0) - 1))) [])))
                      (
                      br (!Decidable.decide (List.getD xs 12 0 ≤ Go.IntKind.wrap Go.IntKind.i64 (Int.tdiv (Go.IntKind.wrap Go.IntKind.i64 (Int.tdiv (Go.IntKind.wrap Go.IntKind.i64 (Int.tdiv 32 2)) 2)) 2)))
                        (
                        K (vi (0)) [])
                        (
                        K (vi (Go.IntKind.wrap Go.IntKind.i64 (Go.IntKind.wrap Go.IntKind.i64 (Go.IntKind.wrap Go.IntKind.i64 (Go.IntKind.wrap Go.IntKind.i64 (Go.IntKind.wrap Go.IntKind.i64 (Go.IntKind.wrap Go.IntKind.i64 (3 + List.getD xs 3 0) + Go.IntKind.wrap Go.IntKind.i64 (Int.tdiv (Go.IntKind.wrap Go.IntKind.i64 (List.getD xs 2 0 + 3)) 4)) + Go.IntKind.wrap Go.IntKind.i64 (5 * List.getD xs 2 0)) + Go.IntKind.wrap Go.IntKind.i64 (0 + 32)) + List.getD xs 12 0) - 1))) [])))
                    (
                    br (!Decidable.decide (List.getD xs 12 0 ≤ Go.IntKind.wrap Go.IntKind.i64 (Int.tdiv (Go.IntKind.wrap Go.IntKind.i64 (Int.tdiv 32 2)) 2)))
                      (
                      K (vi (0)) [])
                      (
                      K (vi (Go.IntKind.wrap Go.IntKind.i64 (Go.IntKind.wrap Go.IntKind.i64 (Go.IntKind.wrap Go.IntKind.i64 (Go.IntKind.wrap Go.IntKind.i64 (Go.IntKind.wrap Go.IntKind.i64 (Go.IntKind.wrap Go.IntKind.i64 (3 + List.getD xs 3 0) + Go.IntKind.wrap Go.IntKind.i64 (Int.tdiv (Go.IntKind.wrap Go.IntKind.i64 (List.getD xs 2 0 + 3)) 4)) + Go.IntKind.wrap Go.IntKind.i64 (5 * List.getD xs 2 0)) + Go.IntKind.wrap Go.IntKind.i64 (0 + 32)) + List.getD xs 12 0) - 1))) [])))
                  (
                  br (!Decidable.decide (List.getD xs 12 0 ≤ Go.IntKind.wrap Go.IntKind.i64 (Int.tdiv 32 2)))
                    (
                    K (vi (0)) [])
                    (
                    K (vi (Go.IntKind.wrap Go.IntKind.i64 (Go.IntKind.wrap Go.IntKind.i64 (Go.IntKind.wrap Go.IntKind.i64 (Go.IntKind.wrap Go.IntKind.i64 (Go.IntKind.wrap Go.IntKind.i64 (Go.IntKind.wrap Go.IntKind.i64 (3 + List.getD xs 3 0) + Go.IntKind.wrap Go.IntKind.i64 (Int.tdiv (Go.IntKind.wrap Go.IntKind.i64 (List.getD xs 2 0 + 3)) 4)) + Go.IntKind.wrap Go.IntKind.i64 (5 * List.getD xs 2 0)) + Go.IntKind.wrap Go.IntKind.i64 (0 + 32)) + List.getD xs 12 0) - 1))) [])))
                (
                br (!Decidable.decide (List.getD xs 12 0 ≤ 32))
                  (
                  K (vi (0)) [])
                  (
                  K (vi (Go.IntKind.wrap Go.IntKind.i64 (Go.IntKind.wrap Go.IntKind.i64 (Go.IntKind.wrap Go.IntKind.i64 (Go.IntKind.wrap Go.IntKind.i64 (Go.IntKind.wrap Go.IntKind.i64 (Go.IntKind.wrap Go.IntKind.i64 (3 + List.getD xs 3 0) + Go.IntKind.wrap Go.IntKind.i64 (Int.tdiv (Go.IntKind.wrap Go.IntKind.i64 (List.getD xs 2 0 + 3)) 4)) + Go.IntKind.wrap Go.IntKind.i64 (5 * List.getD xs 2 0)) + Go.IntKind.wrap Go.IntKind.i64 (0 + 32)) + List.getD xs 12 0) - 1))) [])))
              (
              K (vi (0)) [])))
          (
          br (Decidable.decide (List.getD xs 12 0 ≥ 1))
            (
            br (Decidable.decide (0 < List.getD xs 11 0))
              (
              br (Decidable.decide (Go.IntKind.wrap Go.IntKind.i64 (0 + 1) < List.getD xs 11 0))
                (
                br (Decidable.decide (Go.IntKind.wrap Go.IntKind.i64 (Go.IntKind.wrap Go.IntKind.i64 (0 + 1) + 1) < List.getD xs 11 0))
                  (
                  br (Decidable.decide (Go.IntKind.wrap Go.IntKind.i64 (Go.IntKind.wrap Go.IntKind.i64 (Go.IntKind.wrap Go.IntKind.i64 (0 + 1) + 1) + 1) < List.getD xs 11 0))
                    (
                    br (Decidable.decide (Go.IntKind.wrap Go.IntKind.i64 (Go.IntKind.wrap Go.IntKind.i64 (Go.IntKind.wrap Go.IntKind.i64 (Go.IntKind.wrap Go.IntKind.i64 (0 + 1) + 1) + 1) + 1) < List.getD xs 11 0))
                      (
                      br (Decidable.decide (Go.IntKind.wrap Go.IntKind.i64 (Go.IntKind.wrap Go.IntKind.i64 (Go.IntKind.wrap Go.IntKind.i64 (Go.IntKind.wrap Go.IntKind.i64 (Go.IntKind.wrap Go.IntKind.i64 (0 + 1) + 1) + 1) + 1) + 1) < List.getD xs 11 0))
                        (
                        br (!Decidable.decide (List.getD xs 12 0 ≤ Go.IntKind.wrap Go.IntKind.i64 (Int.tdiv (Go.IntKind.wrap Go.IntKind.i64 (Int.tdiv (Go.IntKind.wrap Go.IntKind.i64 (Int.tdiv (Go.IntKind.wrap Go.IntKind.i64 (Int.tdiv (Go.IntKind.wrap Go.IntKind.i64 (Int.tdiv 32 2)) 2)) 2)) 2)) 2)))
                          (
                          K (vi (0)) [])
                          (
                          K (vi (Go.IntKind.wrap Go.IntKind.i64 (Go.IntKind.wrap Go.IntKind.i64 (Go.IntKind.wrap Go.IntKind.i64 (Go.IntKind.wrap Go.IntKind.i64 (Go.IntKind.wrap Go.IntKind.i64 (Go.IntKind.wrap Go.IntKind.i64 (3 + List.getD xs 3 0) + Go.IntKind.wrap Go.IntKind.i64 (Int.tdiv (Go.IntKind.wrap Go.IntKind.i64 (List.getD xs 2 0 + 3)) 4)) + Go.IntKind.wrap Go.IntKind.i64 (5 * List.getD xs 2 0)) + 0) + List.getD xs 12 0) - 1))) []))
                        (
                        br (!Decidable.decide (List.getD xs 12 0 ≤ Go.IntKind.wrap Go.IntKind.i64 (Int.tdiv (Go.IntKind.wrap Go.IntKind.i64 (Int.tdiv (Go.IntKind.wrap Go.IntKind.i64 (Int.tdiv (Go.IntKind.wrap Go.IntKind.i64 (Int.tdiv (Go.IntKind.wrap Go.IntKind.i64 (Int.tdiv 32 2)) 2)) 2)) 2)) 2)))
                          (
                          K (vi (0)) [])
                          (
                          K (vi (Go.IntKind.wrap Go.IntKind.i64 (Go.IntKind.wrap Go.IntKind.i64 (Go.IntKind.wrap Go.IntKind.i64 (Go.IntKind.wrap Go.IntKind.i64 (Go.IntKind.wrap Go.IntKind.i64 (Go.IntKind.wrap Go.IntKind.i64 (3 + List.getD xs 3 0) + Go.IntKind.wrap Go.IntKind.i64 (Int.tdiv (Go.IntKind.wrap Go.IntKind.i64 (List.getD xs 2 0 + 3)) 4)) + Go.IntKind.wrap Go.IntKind.i64 (5 * List.getD xs 2 0)) + 0) + List.getD xs 12 0) - 1))) [])))
                      (
                      br (!Decidable.decide (List.getD xs 12 0 ≤ Go.IntKind.wrap Go.IntKind.i64 (Int.tdiv (Go.IntKind.wrap Go.IntKind.i64 (Int.tdiv (Go.IntKind.wrap Go.IntKind.i64 (Int.tdiv (Go.IntKind.wrap Go.IntKind.i64 (Int.tdiv 32 2)) 2)) 2)) 2)))
                        (
                        K (vi (0)) [])
                        (
                        K (vi (Go.IntKind.wrap Go.IntKind.i64 (Go.IntKind.wrap Go.IntKind.i64 (Go.IntKind.wrap Go.IntKind.i64 (Go.IntKind.wrap Go.IntKind.i64 (Go.IntKind.wrap Go.IntKind.i64 (Go.IntKind.wrap Go.IntKind.i64 (3 + List.getD xs 3 0) + Go.IntKind.wrap Go.IntKind.i64 (Int.tdiv (Go.IntKind.wrap Go.IntKind.i64 (List.getD xs 2 0 + 3)) 4)) + Go.IntKind.wrap Go.IntKind.i64 (5 * List.getD xs 2 0)) + 0) + List.getD xs 12 0) - 1))) [])))
                    (
                    br (!Decidable.decide (List.getD xs 12 0 ≤ Go.IntKind.wrap Go.IntKind.i64 (Int.tdiv (Go.IntKind.wrap Go.IntKind.i64 (Int.tdiv (Go.IntKind.wrap Go.IntKind.i64 (Int.tdiv 32 2)) 2)) 2)))
                      (
                      K (vi (0)) [])
                      (
                      K (vi (Go.IntKind.wrap Go.IntKind.i64 (Go.IntKind.wrap Go.IntKind.i64 (Go.IntKind.wrap Go.IntKind.i64 (Go.IntKind.wrap Go.IntKind.i64 (Go.IntKind.wrap Go.IntKind.i64 (Go.IntKind.wrap Go.IntKind.i64 (3 + List.getD xs 3 0) + Go.IntKind.wrap Go.IntKind.i64 (Int.tdiv (Go.IntKind.wrap Go.IntKind.i64 (List.getD xs 2 0 + 3)) 4)) + Go.IntKind.wrap Go.IntKind.i64 (5 * List.getD xs 2 0)) + 0) + List.getD xs 12 0) - 1))) [])))
                  (
                  br (!Decidable.decide (List.getD xs 12 0 ≤ Go.IntKind.wrap Go.IntKind.i64 (Int.tdiv (Go.IntKind.wrap Go.IntKind.i64 (Int.tdiv 32 2)) 2)))
                    (
                    K (vi (0)) [])
                    (
                    K (vi (Go.IntKind.wrap Go.IntKind.i64 (Go.IntKind.wrap Go.IntKind.i64 (Go.IntKind.wrap Go.IntKind.i64 (Go.IntKind.wrap Go.IntKind.i64 (Go.IntKind.wrap Go.IntKind.i64 (Go.IntKind.wrap Go.IntKind.i64 (3 + List.getD xs 3 0) + Go.IntKind.wrap Go.IntKind.i64 (Int.tdiv (Go.IntKind.wrap Go.IntKind.i64 (List.getD xs 2 0 + 3)) 4)) + Go.IntKind.wrap Go.IntKind.i64 (5 * List.getD xs 2 0)) + 0) + List.getD xs 12 0) - 1))) [])))
                (
                br (!Decidable.decide (List.getD xs 12 0 ≤ Go.IntKind.wrap Go.IntKind.i64 (Int.tdiv 32 2)))
                  (
                  K (vi (0)) [])
                  (
                  K (vi (Go.IntKind.wrap Go.IntKind.i64 (Go.IntKind.wrap Go.IntKind.i64 (Go.IntKind.wrap Go.IntKind.i64 (Go.IntKind.wrap Go.IntKind.i64 (Go.IntKind.wrap Go.IntKind.i64 (Go.IntKind.wrap Go.IntKind.i64 (3 + List.getD xs 3 0) + Go.IntKind.wrap Go.IntKind.i64 (Int.tdiv (Go.IntKind.wrap Go.IntKind.i64 (List.getD xs 2 0 + 3)) 4)) + Go.IntKind.wrap Go.IntKind.i64 (5 * List.getD xs 2 0)) + 0) + List.getD xs 12 0) - 1))) [])))
              (
              br (!Decidable.decide (List.getD xs 12 0 ≤ 32))
                (
                K (vi (0)) [])
                (
                K (vi (Go.IntKind.wrap Go.IntKind.i64 (Go.IntKind.wrap Go.IntKind.i64 (Go.IntKind.wrap Go.IntKind.i64 (Go.IntKind.wrap Go.IntKind.i64 (Go.IntKind.wrap Go.IntKind.i64 (Go.IntKind.wrap Go.IntKind.i64 (3 + List.getD xs 3 0) + Go.IntKind.wrap Go.IntKind.i64 (Int.tdiv (Go.IntKind.wrap Go.IntKind.i64 (List.getD xs 2 0 + 3)) 4)) + Go.IntKind.wrap Go.IntKind.i64 (5 * List.getD xs 2 0)) + 0) + List.getD xs 12 0) - 1))) [])))
            (
            K (vi (0)) []))))) := by
  kernel_rfl

end Go.Rx
end

section
/- What the reference's functions tell, off their normal forms (by a program of this session's); their contracts. -/
namespace Go.Rx
open Go.Proofs

def v19_0 (xs : List Int) : Int := (Go.IntKind.wrap Go.IntKind.i64 (Int.tdiv (Go.IntKind.wrap Go.IntKind.i64 (List.getD xs 2 0 + 3)) 4))

def p19 (xs : List Int) : Prop := True

def s19 : Spec := fS [11] p19 (fun xs => vi (v19_0 xs))

def q19 : Spec where
  tr := fun args H K => match H, shA [11] args with
    | [], some xs => p19 xs ∧ ∀ (x0 : Int), x0 = v19_0 xs → K (vi x0) []
    | _, _ => False

def v41_0 (xs : List Int) : Int := (Go.IntKind.wrap Go.IntKind.i64 (Go.IntKind.wrap Go.IntKind.i64 (Go.IntKind.wrap Go.IntKind.i64 (Int.tdiv (Go.IntKind.wrap Go.IntKind.i64 (Go.IntKind.wrap Go.IntKind.i64 (Go.IntKind.wrap Go.IntKind.i64 (Go.IntKind.wrap Go.IntKind.i64 (Go.IntKind.wrap Go.IntKind.i64 (Go.IntKind.wrap Go.IntKind.i64 (Go.IntKind.wrap Go.IntKind.i64 (Go.IntKind.wrap Go.IntKind.i64 (3 + List.getD xs 3 0) + Go.IntKind.wrap Go.IntKind.i64 (Int.tdiv (Go.IntKind.wrap Go.IntKind.i64 (List.getD xs 2 0 + 3)) 4)) + Go.IntKind.wrap Go.IntKind.i64 (5 * List.getD xs 2 0)) + 62) + Go.IntKind.wrap Go.IntKind.i64 (Go.IntKind.wrap Go.IntKind.i64 (5 * List.getD xs 1 0) * Go.IntKind.wrap Go.IntKind.i64 (List.getD xs 8 0 + 1))) + Go.IntKind.wrap Go.IntKind.i64 (5 * Go.IntKind.wrap Go.IntKind.i64 (List.getD xs 9 0 + 1))) + Go.IntKind.wrap Go.IntKind.i64 (32 * List.getD xs 2 0)) + 127)) 128) * 128) + Go.IntKind.wrap Go.IntKind.i64 (32 * List.getD xs 2 0)))

def p41 (xs : List Int) : Prop := True

def s41 : Spec := fS [11] p41 (fun xs => vi (v41_0 xs))

def q41 : Spec where
  tr := fun args H K => match H, shA [11] args with
    | [], some xs => p41 xs ∧ ∀ (x0 : Int), x0 = v41_0 xs → K (vi x0) []
    | _, _ => False

def v42_0 (xs : List Int) : Int := (Go.IntKind.wrap Go.IntKind.i64 (Go.IntKind.wrap Go.IntKind.i64 (Int.tdiv (Go.IntKind.wrap Go.IntKind.i64 (Go.IntKind.wrap Go.IntKind.i64 (Go.IntKind.wrap Go.IntKind.i64 (Go.IntKind.wrap Go.IntKind.i64 (Go.IntKind.wrap Go.IntKind.i64 (Go.IntKind.wrap Go.IntKind.i64 (Go.IntKind.wrap Go.IntKind.i64 (Go.IntKind.wrap Go.IntKind.i64 (3 + List.getD xs 3 0) + Go.IntKind.wrap Go.IntKind.i64 (Int.tdiv (Go.IntKind.wrap Go.IntKind.i64 (List.getD xs 2 0 + 3)) 4)) + Go.IntKind.wrap Go.IntKind.i64 (5 * List.getD xs 2 0)) + 62) + Go.IntKind.wrap Go.IntKind.i64 (Go.IntKind.wrap Go.IntKind.i64 (5 * List.getD xs 1 0) * Go.IntKind.wrap Go.IntKind.i64 (List.getD xs 8 0 + 1))) + Go.IntKind.wrap Go.IntKind.i64 (5 * Go.IntKind.wrap Go.IntKind.i64 (List.getD xs 9 0 + 1))) + Go.IntKind.wrap Go.IntKind.i64 (32 * List.getD xs 2 0)) + 127)) 128) * 128))

def p42 (xs : List Int) : Prop := True

def s42 : Spec := fS [11] p42 (fun xs => vi (v42_0 xs))

def q42 : Spec where
  tr := fun args H K => match H, shA [11] args with
    | [], some xs => p42 xs ∧ ∀ (x0 : Int), x0 = v42_0 xs → K (vi x0) []
    | _, _ => False

def v21_0 (xs : List Int) : Int := (bif (Decidable.decide (List.getD xs 11 0 ≥ 0)) then (bif (!Decidable.decide (List.getD xs 11 0 < Go.IntKind.wrap Go.IntKind.i64 (Int.tdiv (Go.IntKind.wrap Go.IntKind.i64 (List.getD xs 2 0 + 3)) 4))) then (0) else (Go.IntKind.wrap Go.IntKind.i64 (Go.IntKind.wrap Go.IntKind.i64 (3 + List.getD xs 3 0) + List.getD xs 11 0))) else (0))

def p21 (xs : List Int) : Prop := True

def s21 : Spec := fS [11, 0] p21 (fun xs => vi (v21_0 xs))

def q21 : Spec where
  tr := fun args H K => match H, shA [11, 0] args with
    | [], some xs => p21 xs ∧ ∀ (x0 : Int), x0 = v21_0 xs → K (vi x0) []
    | _, _ => False

def v25_0 (xs : List Int) : Int := (bif (Decidable.decide (List.getD xs 11 0 ≥ 0)) then (bif (!Decidable.decide (List.getD xs 11 0 < List.getD xs 2 0)) then (0) else (Go.IntKind.wrap Go.IntKind.i64 (Go.IntKind.wrap Go.IntKind.i64 (Go.IntKind.wrap Go.IntKind.i64 (Go.IntKind.wrap Go.IntKind.i64 (3 + List.getD xs 3 0) + Go.IntKind.wrap Go.IntKind.i64 (Int.tdiv (Go.IntKind.wrap Go.IntKind.i64 (List.getD xs 2 0 + 3)) 4)) + Go.IntKind.wrap Go.IntKind.i64 (0 * List.getD xs 2 0)) + List.getD xs 11 0))) else (0))

def p25 (xs : List Int) : Prop := True

def s25 : Spec := fS [11, 0] p25 (fun xs => vi (v25_0 xs))

def q25 : Spec where
  tr := fun args H K => match H, shA [11, 0] args with
    | [], some xs => p25 xs ∧ ∀ (x0 : Int), x0 = v25_0 xs → K (vi x0) []
    | _, _ => False

def v27_0 (xs : List Int) : Int := (bif (Decidable.decide (List.getD xs 11 0 ≥ 0)) then (bif (!Decidable.decide (List.getD xs 11 0 < List.getD xs 2 0)) then (0) else (Go.IntKind.wrap Go.IntKind.i64 (Go.IntKind.wrap Go.IntKind.i64 (Go.IntKind.wrap Go.IntKind.i64 (Go.IntKind.wrap Go.IntKind.i64 (3 + List.getD xs 3 0) + Go.IntKind.wrap Go.IntKind.i64 (Int.tdiv (Go.IntKind.wrap Go.IntKind.i64 (List.getD xs 2 0 + 3)) 4)) + Go.IntKind.wrap Go.IntKind.i64 (1 * List.getD xs 2 0)) + List.getD xs 11 0))) else (0))

def p27 (xs : List Int) : Prop := True

def s27 : Spec := fS [11, 0] p27 (fun xs => vi (v27_0 xs))

def q27 : Spec where
  tr := fun args H K => match H, shA [11, 0] args with
    | [], some xs => p27 xs ∧ ∀ (x0 : Int), x0 = v27_0 xs → K (vi x0) []
    | _, _ => False

def v29_0 (xs : List Int) : Int := (bif (Decidable.decide (List.getD xs 11 0 ≥ 0)) then (bif (!Decidable.decide (List.getD xs 11 0 < List.getD xs 2 0)) then (0) else (Go.IntKind.wrap Go.IntKind.i64 (Go.IntKind.wrap Go.IntKind.i64 (Go.IntKind.wrap Go.IntKind.i64 (Go.IntKind.wrap Go.IntKind.i64 (3 + List.getD xs 3 0) + Go.IntKind.wrap Go.IntKind.i64 (Int.tdiv (Go.IntKind.wrap Go.IntKind.i64 (List.getD xs 2 0 + 3)) 4)) + Go.IntKind.wrap Go.IntKind.i64 (2 * List.getD xs 2 0)) + List.getD xs 11 0))) else (0))

def p29 (xs : List Int) : Prop := True

def s29 : Spec := fS [11, 0] p29 (fun xs => vi (v29_0 xs))

def q29 : Spec where
  tr := fun args H K => match H, shA [11, 0] args with
    | [], some xs => p29 xs ∧ ∀ (x0 : Int), x0 = v29_0 xs → K (vi x0) []
    | _, _ => False

def v31_0 (xs : List Int) : Int := (bif (Decidable.decide (List.getD xs 11 0 ≥ 0)) then (bif (!Decidable.decide (List.getD xs 11 0 < List.getD xs 2 0)) then (0) else (Go.IntKind.wrap Go.IntKind.i64 (Go.IntKind.wrap Go.IntKind.i64 (Go.IntKind.wrap Go.IntKind.i64 (Go.IntKind.wrap Go.IntKind.i64 (3 + List.getD xs 3 0) + Go.IntKind.wrap Go.IntKind.i64 (Int.tdiv (Go.IntKind.wrap Go.IntKind.i64 (List.getD xs 2 0 + 3)) 4)) + Go.IntKind.wrap Go.IntKind.i64 (3 * List.getD xs 2 0)) + List.getD xs 11 0))) else (0))

def p31 (xs : List Int) : Prop := True

def s31 : Spec := fS [11, 0] p31 (fun xs => vi (v31_0 xs))

def q31 : Spec where
  tr := fun args H K => match H, shA [11, 0] args with
    | [], some xs => p31 xs ∧ ∀ (x0 : Int), x0 = v31_0 xs → K (vi x0) []
    | _, _ => False

def v33_0 (xs : List Int) : Int := (bif (Decidable.decide (List.getD xs 11 0 ≥ 0)) then (bif (!Decidable.decide (List.getD xs 11 0 < List.getD xs 2 0)) then (0) else (Go.IntKind.wrap Go.IntKind.i64 (Go.IntKind.wrap Go.IntKind.i64 (Go.IntKind.wrap Go.IntKind.i64 (Go.IntKind.wrap Go.IntKind.i64 (3 + List.getD xs 3 0) + Go.IntKind.wrap Go.IntKind.i64 (Int.tdiv (Go.IntKind.wrap Go.IntKind.i64 (List.getD xs 2 0 + 3)) 4)) + Go.IntKind.wrap Go.IntKind.i64 (4 * List.getD xs 2 0)) + List.getD xs 11 0))) else (0))

def p33 (xs : List Int) : Prop := True

def s33 : Spec := fS [11, 0] p33 (fun xs => vi (v33_0 xs))

def q33 : Spec where
  tr := fun args H K => match H, shA [11, 0] args with
    | [], some xs => p33 xs ∧ ∀ (x0 : Int), x0 = v33_0 xs → K (vi x0) []
    | _, _ => False

def v35_0 (xs : List Int) : Int := (bif (Decidable.decide (List.getD xs 11 0 ≥ 0)) then (bif (!Decidable.decide (List.getD xs 11 0 < List.getD xs 2 0)) then (0) else (Go.IntKind.wrap Go.IntKind.i64 (Go.IntKind.wrap Go.IntKind.i64 (Go.IntKind.wrap Go.IntKind.i64 (Int.tdiv (Go.IntKind.wrap Go.IntKind.i64 (Go.IntKind.wrap Go.IntKind.i64 (Go.IntKind.wrap Go.IntKind.i64 (Go.IntKind.wrap Go.IntKind.i64 (Go.IntKind.wrap Go.IntKind.i64 (Go.IntKind.wrap Go.IntKind.i64 (Go.IntKind.wrap Go.IntKind.i64 (Go.IntKind.wrap Go.IntKind.i64 (3 + List.getD xs 3 0) + Go.IntKind.wrap Go.IntKind.i64 (Int.tdiv (Go.IntKind.wrap Go.IntKind.i64 (List.getD xs 2 0 + 3)) 4)) + Go.IntKind.wrap Go.IntKind.i64 (5 * List.getD xs 2 0)) + 62) + Go.IntKind.wrap Go.IntKind.i64 (Go.IntKind.wrap Go.IntKind.i64 (5 * List.getD xs 1 0) * Go.IntKind.wrap Go.IntKind.i64 (List.getD xs 8 0 + 1))) + Go.IntKind.wrap Go.IntKind.i64 (5 * Go.IntKind.wrap Go.IntKind.i64 (List.getD xs 9 0 + 1))) + Go.IntKind.wrap Go.IntKind.i64 (32 * List.getD xs 2 0)) + 127)) 128) * 128) + Go.IntKind.wrap Go.IntKind.i64 (32 * List.getD xs 11 0)))) else (0))

def p35 (xs : List Int) : Prop := True

def s35 : Spec := fS [11, 0] p35 (fun xs => vi (v35_0 xs))

def q35 : Spec where
  tr := fun args H K => match H, shA [11, 0] args with
    | [], some xs => p35 xs ∧ ∀ (x0 : Int), x0 = v35_0 xs → K (vi x0) []
    | _, _ => False

def v40_0 (xs : List Int) : Int := (bif (Decidable.decide (List.getD xs 11 0 < Go.IntKind.wrap Go.IntKind.i64 (Go.IntKind.wrap Go.IntKind.i64 (Int.tdiv (Go.IntKind.wrap Go.IntKind.i64 (Go.IntKind.wrap Go.IntKind.i64 (Go.IntKind.wrap Go.IntKind.i64 (Go.IntKind.wrap Go.IntKind.i64 (Go.IntKind.wrap Go.IntKind.i64 (Go.IntKind.wrap Go.IntKind.i64 (Go.IntKind.wrap Go.IntKind.i64 (Go.IntKind.wrap Go.IntKind.i64 (3 + List.getD xs 3 0) + Go.IntKind.wrap Go.IntKind.i64 (Int.tdiv (Go.IntKind.wrap Go.IntKind.i64 (List.getD xs 2 0 + 3)) 4)) + Go.IntKind.wrap Go.IntKind.i64 (5 * List.getD xs 2 0)) + 62) + Go.IntKind.wrap Go.IntKind.i64 (Go.IntKind.wrap Go.IntKind.i64 (5 * List.getD xs 1 0) * Go.IntKind.wrap Go.IntKind.i64 (List.getD xs 8 0 + 1))) + Go.IntKind.wrap Go.IntKind.i64 (5 * Go.IntKind.wrap Go.IntKind.i64 (List.getD xs 9 0 + 1))) + Go.IntKind.wrap Go.IntKind.i64 (32 * List.getD xs 2 0)) + 127)) 128) * 128))) then (0) else (bif (Decidable.decide (List.getD xs 11 0 ≥ Go.IntKind.wrap Go.IntKind.i64 (Go.IntKind.wrap Go.IntKind.i64 (Go.IntKind.wrap Go.IntKind.i64 (Int.tdiv (Go.IntKind.wrap Go.IntKind.i64 (Go.IntKind.wrap Go.IntKind.i64 (Go.IntKind.wrap Go.IntKind.i64 (Go.IntKind.wrap Go.IntKind.i64 (Go.IntKind.wrap Go.IntKind.i64 (Go.IntKind.wrap Go.IntKind.i64 (Go.IntKind.wrap Go.IntKind.i64 (Go.IntKind.wrap Go.IntKind.i64 (3 + List.getD xs 3 0) + Go.IntKind.wrap Go.IntKind.i64 (Int.tdiv (Go.IntKind.wrap Go.IntKind.i64 (List.getD xs 2 0 + 3)) 4)) + Go.IntKind.wrap Go.IntKind.i64 (5 * List.getD xs 2 0)) + 62) + Go.IntKind.wrap Go.IntKind.i64 (Go.IntKind.wrap Go.IntKind.i64 (5 * List.getD xs 1 0) * Go.IntKind.wrap Go.IntKind.i64 (List.getD xs 8 0 + 1))) + Go.IntKind.wrap Go.IntKind.i64 (5 * Go.IntKind.wrap Go.IntKind.i64 (List.getD xs 9 0 + 1))) + Go.IntKind.wrap Go.IntKind.i64 (32 * List.getD xs 2 0)) + 127)) 128) * 128) + Go.IntKind.wrap Go.IntKind.i64 (32 * List.getD xs 2 0)))) then (0) else (Go.IntKind.wrap Go.IntKind.i64 (Int.tdiv (Go.IntKind.wrap Go.IntKind.i64 (List.getD xs 11 0 - Go.IntKind.wrap Go.IntKind.i64 (Go.IntKind.wrap Go.IntKind.i64 (Int.tdiv (Go.IntKind.wrap Go.IntKind.i64 (Go.IntKind.wrap Go.IntKind.i64 (Go.IntKind.wrap Go.IntKind.i64 (Go.IntKind.wrap Go.IntKind.i64 (Go.IntKind.wrap Go.IntKind.i64 (Go.IntKind.wrap Go.IntKind.i64 (Go.IntKind.wrap Go.IntKind.i64 (Go.IntKind.wrap Go.IntKind.i64 (3 + List.getD xs 3 0) + Go.IntKind.wrap Go.IntKind.i64 (Int.tdiv (Go.IntKind.wrap Go.IntKind.i64 (List.getD xs 2 0 + 3)) 4)) + Go.IntKind.wrap Go.IntKind.i64 (5 * List.getD xs 2 0)) + 62) + Go.IntKind.wrap Go.IntKind.i64 (Go.IntKind.wrap Go.IntKind.i64 (5 * List.getD xs 1 0) * Go.IntKind.wrap Go.IntKind.i64 (List.getD xs 8 0 + 1))) + Go.IntKind.wrap Go.IntKind.i64 (5 * Go.IntKind.wrap Go.IntKind.i64 (List.getD xs 9 0 + 1))) + Go.IntKind.wrap Go.IntKind.i64 (32 * List.getD xs 2 0)) + 127)) 128) * 128))) 32))))

def v40_1 (xs : List Int) : Int := (bif (Decidable.decide (List.getD xs 11 0 < Go.IntKind.wrap Go.IntKind.i64 (Go.IntKind.wrap Go.IntKind.i64 (Int.tdiv (Go.IntKind.wrap Go.IntKind.i64 (Go.IntKind.wrap Go.IntKind.i64 (Go.IntKind.wrap Go.IntKind.i64 (Go.IntKind.wrap Go.IntKind.i64 (Go.IntKind.wrap Go.IntKind.i64 (Go.IntKind.wrap Go.IntKind.i64 (Go.IntKind.wrap Go.IntKind.i64 (Go.IntKind.wrap Go.IntKind.i64 (3 + List.getD xs 3 0) + Go.IntKind.wrap Go.IntKind.i64 (Int.tdiv (Go.IntKind.wrap Go.IntKind.i64 (List.getD xs 2 0 + 3)) 4)) + Go.IntKind.wrap Go.IntKind.i64 (5 * List.getD xs 2 0)) + 62) + Go.IntKind.wrap Go.IntKind.i64 (Go.IntKind.wrap Go.IntKind.i64 (5 * List.getD xs 1 0) * Go.IntKind.wrap Go.IntKind.i64 (List.getD xs 8 0 + 1))) + Go.IntKind.wrap Go.IntKind.i64 (5 * Go.IntKind.wrap Go.IntKind.i64 (List.getD xs 9 0 + 1))) + Go.IntKind.wrap Go.IntKind.i64 (32 * List.getD xs 2 0)) + 127)) 128) * 128))) then (0) else (bif (Decidable.decide (List.getD xs 11 0 ≥ Go.IntKind.wrap Go.IntKind.i64 (Go.IntKind.wrap Go.IntKind.i64 (Go.IntKind.wrap Go.IntKind.i64 (Int.tdiv (Go.IntKind.wrap Go.IntKind.i64 (Go.IntKind.wrap Go.IntKind.i64 (Go.IntKind.wrap Go.IntKind.i64 (Go.IntKind.wrap Go.IntKind.i64 (Go.IntKind.wrap Go.IntKind.i64 (Go.IntKind.wrap Go.IntKind.i64 (Go.IntKind.wrap Go.IntKind.i64 (Go.IntKind.wrap Go.IntKind.i64 (3 + List.getD xs 3 0) + Go.IntKind.wrap Go.IntKind.i64 (Int.tdiv (Go.IntKind.wrap Go.IntKind.i64 (List.getD xs 2 0 + 3)) 4)) + Go.IntKind.wrap Go.IntKind.i64 (5 * List.getD xs 2 0)) + 62) + Go.IntKind.wrap Go.IntKind.i64 (Go.IntKind.wrap Go.IntKind.i64 (5 * List.getD xs 1 0) * Go.IntKind.wrap Go.IntKind.i64 (List.getD xs 8 0 + 1))) + Go.IntKind.wrap Go.IntKind.i64 (5 * Go.IntKind.wrap Go.IntKind.i64 (List.getD xs 9 0 + 1))) + Go.IntKind.wrap Go.IntKind.i64 (32 * List.getD xs 2 0)) + 127)) 128) * 128) + Go.IntKind.wrap Go.IntKind.i64 (32 * List.getD xs 2 0)))) then (0) else (Int.tmod (Go.IntKind.wrap Go.IntKind.i64 (List.getD xs 11 0 - Go.IntKind.wrap Go.IntKind.i64 (Go.IntKind.wrap Go.IntKind.i64 (Int.tdiv (Go.IntKind.wrap Go.IntKind.i64 (Go.IntKind.wrap Go.IntKind.i64 (Go.IntKind.wrap Go.IntKind.i64 (Go.IntKind.wrap Go.IntKind.i64 (Go.IntKind.wrap Go.IntKind.i64 (Go.IntKind.wrap Go.IntKind.i64 (Go.IntKind.wrap Go.IntKind.i64 (Go.IntKind.wrap Go.IntKind.i64 (3 + List.getD xs 3 0) + Go.IntKind.wrap Go.IntKind.i64 (Int.tdiv (Go.IntKind.wrap Go.IntKind.i64 (List.getD xs 2 0 + 3)) 4)) + Go.IntKind.wrap Go.IntKind.i64 (5 * List.getD xs 2 0)) + 62) + Go.IntKind.wrap Go.IntKind.i64 (Go.IntKind.wrap Go.IntKind.i64 (5 * List.getD xs 1 0) * Go.IntKind.wrap Go.IntKind.i64 (List.getD xs 8 0 + 1))) + Go.IntKind.wrap Go.IntKind.i64 (5 * Go.IntKind.wrap Go.IntKind.i64 (List.getD xs 9 0 + 1))) + Go.IntKind.wrap Go.IntKind.i64 (32 * List.getD xs 2 0)) + 127)) 128) * 128))) 32)))

def v40_2 (xs : List Int) : Bool := (bif (Decidable.decide (List.getD xs 11 0 < Go.IntKind.wrap Go.IntKind.i64 (Go.IntKind.wrap Go.IntKind.i64 (Int.tdiv (Go.IntKind.wrap Go.IntKind.i64 (Go.IntKind.wrap Go.IntKind.i64 (Go.IntKind.wrap Go.IntKind.i64 (Go.IntKind.wrap Go.IntKind.i64 (Go.IntKind.wrap Go.IntKind.i64 (Go.IntKind.wrap Go.IntKind.i64 (Go.IntKind.wrap Go.IntKind.i64 (Go.IntKind.wrap Go.IntKind.i64 (3 + List.getD xs 3 0) + Go.IntKind.wrap Go.IntKind.i64 (Int.tdiv (Go.IntKind.wrap Go.IntKind.i64 (List.getD xs 2 0 + 3)) 4)) + Go.IntKind.wrap Go.IntKind.i64 (5 * List.getD xs 2 0)) + 62) + Go.IntKind.wrap Go.IntKind.i64 (Go.IntKind.wrap Go.IntKind.i64 (5 * List.getD xs 1 0) * Go.IntKind.wrap Go.IntKind.i64 (List.getD xs 8 0 + 1))) + Go.IntKind.wrap Go.IntKind.i64 (5 * Go.IntKind.wrap Go.IntKind.i64 (List.getD xs 9 0 + 1))) + Go.IntKind.wrap Go.IntKind.i64 (32 * List.getD xs 2 0)) + 127)) 128) * 128))) then (Bool.false) else (bif (Decidable.decide (List.getD xs 11 0 ≥ Go.IntKind.wrap Go.IntKind.i64 (Go.IntKind.wrap Go.IntKind.i64 (Go.IntKind.wrap Go.IntKind.i64 (Int.tdiv (Go.IntKind.wrap Go.IntKind.i64 (Go.IntKind.wrap Go.IntKind.i64 (Go.IntKind.wrap Go.IntKind.i64 (Go.IntKind.wrap Go.IntKind.i64 (Go.IntKind.wrap Go.IntKind.i64 (Go.IntKind.wrap Go.IntKind.i64 (Go.IntKind.wrap Go.IntKind.i64 (Go.IntKind.wrap Go.IntKind.i64 (3 + List.getD xs 3 0) + Go.IntKind.wrap Go.IntKind.i64 (Int.tdiv (Go.IntKind.wrap Go.IntKind.i64 (List.getD xs 2 0 + 3)) 4)) + Go.IntKind.wrap Go.IntKind.i64 (5 * List.getD xs 2 0)) + 62) + Go.IntKind.wrap Go.IntKind.i64 (Go.IntKind.wrap Go.IntKind.i64 (5 * List.getD xs 1 0) * Go.IntKind.wrap Go.IntKind.i64 (List.getD xs 8 0 + 1))) + Go.IntKind.wrap Go.IntKind.i64 (5 * Go.IntKind.wrap Go.IntKind.i64 (List.getD xs 9 0 + 1))) + Go.IntKind.wrap Go.IntKind.i64 (32 * List.getD xs 2 0)) + 127)) 128) * 128) + Go.IntKind.wrap Go.IntKind.i64 (32 * List.getD xs 2 0)))) then (Bool.false) else (Bool.true)))

def p40 (xs : List Int) : Prop := True

def s40 : Spec := fS [11, 0] p40 (fun xs => .tup [vi (v40_0 xs), vi (v40_1 xs), vb (v40_2 xs)])

def q40 : Spec where
  tr := fun args H K => match H, shA [11, 0] args with
    | [], some xs => p40 xs ∧ ∀ (x0 : Int) (x1 : Int) (x2 : Bool), x0 = v40_0 xs → x1 = v40_1 xs → x2 = v40_2 xs → K (.tup [vi x0, vi x1, vb x2]) []
    | _, _ => False

def v46_0 (xs : List Int) : Int := (bif (Decidable.decide (List.getD xs 11 0 < 0)) then (0) else (bif (Decidable.decide (List.getD xs 11 0 ≥ Go.IntKind.wrap Go.IntKind.i64 (Go.IntKind.wrap Go.IntKind.i64 (Go.IntKind.wrap Go.IntKind.i64 (Int.tdiv (Go.IntKind.wrap Go.IntKind.i64 (Go.IntKind.wrap Go.IntKind.i64 (Go.IntKind.wrap Go.IntKind.i64 (Go.IntKind.wrap Go.IntKind.i64 (Go.IntKind.wrap Go.IntKind.i64 (Go.IntKind.wrap Go.IntKind.i64 (Go.IntKind.wrap Go.IntKind.i64 (Go.IntKind.wrap Go.IntKind.i64 (3 + List.getD xs 3 0) + Go.IntKind.wrap Go.IntKind.i64 (Int.tdiv (Go.IntKind.wrap Go.IntKind.i64 (List.getD xs 2 0 + 3)) 4)) + Go.IntKind.wrap Go.IntKind.i64 (5 * List.getD xs 2 0)) + 62) + Go.IntKind.wrap Go.IntKind.i64 (Go.IntKind.wrap Go.IntKind.i64 (5 * List.getD xs 1 0) * Go.IntKind.wrap Go.IntKind.i64 (List.getD xs 8 0 + 1))) + Go.IntKind.wrap Go.IntKind.i64 (5 * Go.IntKind.wrap Go.IntKind.i64 (List.getD xs 9 0 + 1))) + Go.IntKind.wrap Go.IntKind.i64 (32 * List.getD xs 2 0)) + 127)) 128) * 128) + Go.IntKind.wrap Go.IntKind.i64 (32 * List.getD xs 2 0)))) then (0) else (Go.IntKind.wrap Go.IntKind.i64 (3 + Int.tmod (List.getD xs 11 0) (List.getD xs 3 0)))))

def p46 (xs : List Int) : Prop := (((Decidable.decide (List.getD xs 11 0 < 0)) = false → (((Decidable.decide (List.getD xs 11 0 ≥ Go.IntKind.wrap Go.IntKind.i64 (Go.IntKind.wrap Go.IntKind.i64 (Go.IntKind.wrap Go.IntKind.i64 (Int.tdiv (Go.IntKind.wrap Go.IntKind.i64 (Go.IntKind.wrap Go.IntKind.i64 (Go.IntKind.wrap Go.IntKind.i64 (Go.IntKind.wrap Go.IntKind.i64 (Go.IntKind.wrap Go.IntKind.i64 (Go.IntKind.wrap Go.IntKind.i64 (Go.IntKind.wrap Go.IntKind.i64 (Go.IntKind.wrap Go.IntKind.i64 (3 + List.getD xs 3 0) + Go.IntKind.wrap Go.IntKind.i64 (Int.tdiv (Go.IntKind.wrap Go.IntKind.i64 (List.getD xs 2 0 + 3)) 4)) + Go.IntKind.wrap Go.IntKind.i64 (5 * List.getD xs 2 0)) + 62) + Go.IntKind.wrap Go.IntKind.i64 (Go.IntKind.wrap Go.IntKind.i64 (5 * List.getD xs 1 0) * Go.IntKind.wrap Go.IntKind.i64 (List.getD xs 8 0 + 1))) + Go.IntKind.wrap Go.IntKind.i64 (5 * Go.IntKind.wrap Go.IntKind.i64 (List.getD xs 9 0 + 1))) + Go.IntKind.wrap Go.IntKind.i64 (32 * List.getD xs 2 0)) + 127)) 128) * 128) + Go.IntKind.wrap Go.IntKind.i64 (32 * List.getD xs 2 0)))) = false → ((!List.getD xs 3 0 == 0) = true)))))

def s46 : Spec := fS [11, 0] p46 (fun xs => vi (v46_0 xs))

def q46 : Spec where
  tr := fun args H K => match H, shA [11, 0] args with
    | [], some xs => p46 xs ∧ ∀ (x0 : Int), x0 = v46_0 xs → K (vi x0) []
    | _, _ => False

def v48_0 (xs : List Int) : Int := (bif (Decidable.decide (List.getD xs 11 0 ≥ 0)) then (bif (!Decidable.decide (List.getD xs 11 0 ≤ 4)) then (0) else (Go.IntKind.wrap Go.IntKind.i64 (Go.IntKind.wrap Go.IntKind.i64 (Go.IntKind.wrap Go.IntKind.i64 (Go.IntKind.wrap Go.IntKind.i64 (Go.IntKind.wrap Go.IntKind.i64 (Go.IntKind.wrap Go.IntKind.i64 (3 + List.getD xs 3 0) + Go.IntKind.wrap Go.IntKind.i64 (Int.tdiv (Go.IntKind.wrap Go.IntKind.i64 (List.getD xs 2 0 + 3)) 4)) + Go.IntKind.wrap Go.IntKind.i64 (5 * List.getD xs 2 0)) + 62) + Go.IntKind.wrap Go.IntKind.i64 (Go.IntKind.wrap Go.IntKind.i64 (5 * List.getD xs 1 0) * Go.IntKind.wrap Go.IntKind.i64 (List.getD xs 8 0 + 1))) + Go.IntKind.wrap Go.IntKind.i64 (List.getD xs 11 0 * Go.IntKind.wrap Go.IntKind.i64 (List.getD xs 9 0 + 1))))) else (0))

def p48 (xs : List Int) : Prop := True

def s48 : Spec := fS [11, 0] p48 (fun xs => vi (v48_0 xs))

def q48 : Spec where
  tr := fun args H K => match H, shA [11, 0] args with
    | [], some xs => p48 xs ∧ ∀ (x0 : Int), x0 = v48_0 xs → K (vi x0) []
    | _, _ => False

def v49_0 (xs : List Int) : Int := (bif (Decidable.decide (List.getD xs 11 0 ≥ Go.IntKind.wrap Go.IntKind.i64 (Go.IntKind.wrap Go.IntKind.i64 (Int.tdiv (Go.IntKind.wrap Go.IntKind.i64 (Go.IntKind.wrap Go.IntKind.i64 (Go.IntKind.wrap Go.IntKind.i64 (Go.IntKind.wrap Go.IntKind.i64 (Go.IntKind.wrap Go.IntKind.i64 (Go.IntKind.wrap Go.IntKind.i64 (Go.IntKind.wrap Go.IntKind.i64 (Go.IntKind.wrap Go.IntKind.i64 (3 + List.getD xs 3 0) + Go.IntKind.wrap Go.IntKind.i64 (Int.tdiv (Go.IntKind.wrap Go.IntKind.i64 (List.getD xs 2 0 + 3)) 4)) + Go.IntKind.wrap Go.IntKind.i64 (5 * List.getD xs 2 0)) + 62) + Go.IntKind.wrap Go.IntKind.i64 (Go.IntKind.wrap Go.IntKind.i64 (5 * List.getD xs 1 0) * Go.IntKind.wrap Go.IntKind.i64 (List.getD xs 8 0 + 1))) + Go.IntKind.wrap Go.IntKind.i64 (5 * Go.IntKind.wrap Go.IntKind.i64 (List.getD xs 9 0 + 1))) + Go.IntKind.wrap Go.IntKind.i64 (32 * List.getD xs 2 0)) + 127)) 128) * 128))) then (bif (!Decidable.decide (List.getD xs 11 0 < Go.IntKind.wrap Go.IntKind.i64 (Go.IntKind.wrap Go.IntKind.i64 (Go.IntKind.wrap Go.IntKind.i64 (Int.tdiv (Go.IntKind.wrap Go.IntKind.i64 (Go.IntKind.wrap Go.IntKind.i64 (Go.IntKind.wrap Go.IntKind.i64 (Go.IntKind.wrap Go.IntKind.i64 (Go.IntKind.wrap Go.IntKind.i64 (Go.IntKind.wrap Go.IntKind.i64 (Go.IntKind.wrap Go.IntKind.i64 (Go.IntKind.wrap Go.IntKind.i64 (3 + List.getD xs 3 0) + Go.IntKind.wrap Go.IntKind.i64 (Int.tdiv (Go.IntKind.wrap Go.IntKind.i64 (List.getD xs 2 0 + 3)) 4)) + Go.IntKind.wrap Go.IntKind.i64 (5 * List.getD xs 2 0)) + 62) + Go.IntKind.wrap Go.IntKind.i64 (Go.IntKind.wrap Go.IntKind.i64 (5 * List.getD xs 1 0) * Go.IntKind.wrap Go.IntKind.i64 (List.getD xs 8 0 + 1))) + Go.IntKind.wrap Go.IntKind.i64 (5 * Go.IntKind.wrap Go.IntKind.i64 (List.getD xs 9 0 + 1))) + Go.IntKind.wrap Go.IntKind.i64 (32 * List.getD xs 2 0)) + 127)) 128) * 128) + Go.IntKind.wrap Go.IntKind.i64 (32 * List.getD xs 2 0)))) then (0) else (Go.IntKind.wrap Go.IntKind.i64 (Go.IntKind.wrap Go.IntKind.i64 (Go.IntKind.wrap Go.IntKind.i64 (Go.IntKind.wrap Go.IntKind.i64 (Go.IntKind.wrap Go.IntKind.i64 (Go.IntKind.wrap Go.IntKind.i64 (Go.IntKind.wrap Go.IntKind.i64 (Go.IntKind.wrap Go.IntKind.i64 (3 + List.getD xs 3 0) + Go.IntKind.wrap Go.IntKind.i64 (Int.tdiv (Go.IntKind.wrap Go.IntKind.i64 (List.getD xs 2 0 + 3)) 4)) + Go.IntKind.wrap Go.IntKind.i64 (5 * List.getD xs 2 0)) + 62) + Go.IntKind.wrap Go.IntKind.i64 (Go.IntKind.wrap Go.IntKind.i64 (5 * List.getD xs 1 0) * Go.IntKind.wrap Go.IntKind.i64 (List.getD xs 8 0 + 1))) + Go.IntKind.wrap Go.IntKind.i64 (5 * Go.IntKind.wrap Go.IntKind.i64 (List.getD xs 9 0 + 1))) + List.getD xs 11 0) - Go.IntKind.wrap Go.IntKind.i64 (Go.IntKind.wrap Go.IntKind.i64 (Int.tdiv (Go.IntKind.wrap Go.IntKind.i64 (Go.IntKind.wrap Go.IntKind.i64 (Go.IntKind.wrap Go.IntKind.i64 (Go.IntKind.wrap Go.IntKind.i64 (Go.IntKind.wrap Go.IntKind.i64 (Go.IntKind.wrap Go.IntKind.i64 (Go.IntKind.wrap Go.IntKind.i64 (Go.IntKind.wrap Go.IntKind.i64 (3 + List.getD xs 3 0) + Go.IntKind.wrap Go.IntKind.i64 (Int.tdiv (Go.IntKind.wrap Go.IntKind.i64 (List.getD xs 2 0 + 3)) 4)) + Go.IntKind.wrap Go.IntKind.i64 (5 * List.getD xs 2 0)) + 62) + Go.IntKind.wrap Go.IntKind.i64 (Go.IntKind.wrap Go.IntKind.i64 (5 * List.getD xs 1 0) * Go.IntKind.wrap Go.IntKind.i64 (List.getD xs 8 0 + 1))) + Go.IntKind.wrap Go.IntKind.i64 (5 * Go.IntKind.wrap Go.IntKind.i64 (List.getD xs 9 0 + 1))) + Go.IntKind.wrap Go.IntKind.i64 (32 * List.getD xs 2 0)) + 127)) 128) * 128)))) else (0))

def p49 (xs : List Int) : Prop := True

def s49 : Spec := fS [11, 0] p49 (fun xs => vi (v49_0 xs))

def q49 : Spec where
  tr := fun args H K => match H, shA [11, 0] args with
    | [], some xs => p49 xs ∧ ∀ (x0 : Int), x0 = v49_0 xs → K (vi x0) []
    | _, _ => False

def v47_0 (xs : List Int) : Int := (bif (Decidable.decide (List.getD xs 11 0 ≥ 0)) then (bif (Decidable.decide (List.getD xs 11 0 < List.getD xs 1 0)) then (bif (Decidable.decide (List.getD xs 12 0 ≥ 0)) then (bif (!Decidable.decide (List.getD xs 12 0 ≤ 4)) then (0) else (Go.IntKind.wrap Go.IntKind.i64 (Go.IntKind.wrap Go.IntKind.i64 (Go.IntKind.wrap Go.IntKind.i64 (Go.IntKind.wrap Go.IntKind.i64 (Go.IntKind.wrap Go.IntKind.i64 (3 + List.getD xs 3 0) + Go.IntKind.wrap Go.IntKind.i64 (Int.tdiv (Go.IntKind.wrap Go.IntKind.i64 (List.getD xs 2 0 + 3)) 4)) + Go.IntKind.wrap Go.IntKind.i64 (5 * List.getD xs 2 0)) + 62) + Go.IntKind.wrap Go.IntKind.i64 (Go.IntKind.wrap Go.IntKind.i64 (Go.IntKind.wrap Go.IntKind.i64 (5 * List.getD xs 11 0) + List.getD xs 12 0) * Go.IntKind.wrap Go.IntKind.i64 (List.getD xs 8 0 + 1))))) else (0)) else (0)) else (0))

def p47 (xs : List Int) : Prop := True

def s47 : Spec := fS [11, 0, 0] p47 (fun xs => vi (v47_0 xs))

def q47 : Spec where
  tr := fun args H K => match H, shA [11, 0, 0] args with
    | [], some xs => p47 xs ∧ ∀ (x0 : Int), x0 = v47_0 xs → K (vi x0) []
    | _, _ => False



attribute [local irreducible] Loop ex exF contK roundK retK at_ bodyOf mkEnv mkA

theorem sigR0_ok : ∀ g s, sigR0 g = some s → SpecOK Try.prog elTT g s := by
  intro g s hs
  unfold sigR0 at hs
  split at hs
  · injection hs with hs; subst hs; exact inl_ok (cfg := cfgB) (cfg_ok rfl rfl rfl) (nosig rfl) (fn := Try.f19) (by kernel_rfl) (by kernel_rfl) (by kernel_rfl)
  · injection hs with hs; subst hs; exact inl_ok (cfg := cfgB) (cfg_ok rfl rfl rfl) (nosig rfl) (fn := Try.f71) (by kernel_rfl) (by kernel_rfl) (by kernel_rfl)
  · injection hs with hs; subst hs; exact inl_ok (cfg := cfgB) (cfg_ok rfl rfl rfl) (nosig rfl) (fn := Try.f72) (by kernel_rfl) (by kernel_rfl) (by kernel_rfl)
  · injection hs with hs; subst hs; exact inl_ok (cfg := cfg74) (cfg_ok rfl rfl rfl) (nosig rfl) (fn := Try.f74) (by kernel_rfl) (by kernel_rfl) (by kernel_rfl)
  · cases hs

theorem sigR1_ok : ∀ g s, sigR1 g = some s → SpecOK Try.prog elTT g s := by
  intro g s hs
  unfold sigR1 at hs
  split at hs
  · injection hs with hs; subst hs; exact inl_ok (cfg := cfgR 75 sigR0 noU) (cfg_ok rfl rfl rfl) sigR0_ok (fn := Try.f75) (by kernel_rfl) (by kernel_rfl) (by kernel_rfl)
  · injection hs with hs; subst hs; exact inl_ok (cfg := cfgR 76 sigR0 noU) (cfg_ok rfl rfl rfl) sigR0_ok (fn := Try.f76) (by kernel_rfl) (by kernel_rfl) (by kernel_rfl)
  · exact sigR0_ok _ _ hs

theorem sigR2_ok : ∀ g s, sigR2 g = some s → SpecOK Try.prog elTT g s := by
  intro g s hs
  unfold sigR2 at hs
  split at hs
  · injection hs with hs; subst hs; exact inl_ok (cfg := cfgR 79 sigR1 noU) (cfg_ok rfl rfl rfl) sigR1_ok (fn := Try.f79) (by kernel_rfl) (by kernel_rfl) (by kernel_rfl)
  · exact sigR1_ok _ _ hs

theorem sigR3_ok : ∀ g s, sigR3 g = some s → SpecOK Try.prog elTT g s := by
  intro g s hs
  unfold sigR3 at hs
  split at hs
  · injection hs with hs; subst hs; exact inl_ok (cfg := cfgR 80 sigR2 noU) (cfg_ok rfl rfl rfl) sigR2_ok (fn := Try.f80) (by kernel_rfl) (by kernel_rfl) (by kernel_rfl)
  · exact sigR2_ok _ _ hs

theorem sigR4_ok : ∀ g s, sigR4 g = some s → SpecOK Try.prog elTT g s := by
  intro g s hs
  unfold sigR4 at hs
  split at hs
  · injection hs with hs; subst hs; exact inl_ok (cfg := cfgR 78 sigR3 noU) (cfg_ok rfl rfl rfl) sigR3_ok (fn := Try.f78) (by kernel_rfl) (by kernel_rfl) (by kernel_rfl)
  · exact sigR3_ok _ _ hs

theorem sigR5_ok : ∀ g s, sigR5 g = some s → SpecOK Try.prog elTT g s := by
  intro g s hs
  unfold sigR5 at hs
  split at hs
  · injection hs with hs; subst hs; exact inl_ok (cfg := cfgR 42 sigR4 noU) (cfg_ok rfl rfl rfl) sigR4_ok (fn := Try.f42) (by kernel_rfl) (by kernel_rfl) (by kernel_rfl)
  · exact sigR4_ok _ _ hs

theorem sigR_ok : ∀ g s, sigR g = some s → SpecOK Try.prog elTT g s := by
  intro g s hs
  unfold sigR at hs
  split at hs
  · injection hs with hs; subst hs; exact inl_ok (cfg := cfgR 41 sigR5 noU) (cfg_ok rfl rfl rfl) sigR5_ok (fn := Try.f41) (by kernel_rfl) (by kernel_rfl) (by kernel_rfl)
  · exact sigR5_ok _ _ hs



theorem ok19 : SpecOK Try.prog elTT 19 s19 :=
  fS_ok (cfg := cfgQ 19) (cfg_ok rfl rfl rfl) sigR_ok (fn := Try.f19) (by kernel_rfl) (by kernel_rfl) (by kernel_rfl) fun xs K hp hk => Eq.mpr (nf19 xs K) (by simpa only [v19_0, cond_true, cond_false] using hk)

theorem okq19 : SpecOK Try.prog elTT 19 q19 :=
  spec_mono (fun args H K h => by
    unfold q19 at h
    simp only at h
    split at h
    · rename_i xs hxs
      unfold s19 fS
      simp only [hxs]
      exact ⟨h.1, h.2 _ rfl⟩
    · exact h.elim) ok19

theorem ok41 : SpecOK Try.prog elTT 41 s41 :=
  fS_ok (cfg := cfgQ 41) (cfg_ok rfl rfl rfl) sigR_ok (fn := Try.f41) (by kernel_rfl) (by kernel_rfl) (by kernel_rfl) fun xs K hp hk => Eq.mpr (nf41 xs K) (by simpa only [v41_0, cond_true, cond_false] using hk)

theorem okq41 : SpecOK Try.prog elTT 41 q41 :=
  spec_mono (fun args H K h => by
    unfold q41 at h
    simp only at h
    split at h
    · rename_i xs hxs
      unfold s41 fS
      simp only [hxs]
      exact ⟨h.1, h.2 _ rfl⟩
    · exact h.elim) ok41

theorem ok42 : SpecOK Try.prog elTT 42 s42 :=
  fS_ok (cfg := cfgQ 42) (cfg_ok rfl rfl rfl) sigR_ok (fn := Try.f42) (by kernel_rfl) (by kernel_rfl) (by kernel_rfl) fun xs K hp hk => Eq.mpr (nf42 xs K) (by simpa only [v42_0, cond_true, cond_false] using hk)

theorem okq42 : SpecOK Try.prog elTT 42 q42 :=
  spec_mono (fun args H K h => by
    unfold q42 at h
    simp only at h
    split at h
    · rename_i xs hxs
      unfold s42 fS
      simp only [hxs]
      exact ⟨h.1, h.2 _ rfl⟩
    · exact h.elim) ok42

theorem ok21 : SpecOK Try.prog elTT 21 s21 :=
  fS_ok (cfg := cfgQ 21) (cfg_ok rfl rfl rfl) sigR_ok (fn := Try.f21) (by kernel_rfl) (by kernel_rfl) (by kernel_rfl) fun xs K hp hk => Eq.mpr (nf21 xs K) (br_intro (fun h0 => br_intro (fun h1 => by simpa only [v21_0, h0, h1, cond_true, cond_false] using hk) (fun h1 => by simpa only [v21_0, h0, h1, cond_true, cond_false] using hk)) (fun h0 => by simpa only [v21_0, h0, cond_true, cond_false] using hk))

theorem okq21 : SpecOK Try.prog elTT 21 q21 :=
  spec_mono (fun args H K h => by
    unfold q21 at h
    simp only at h
    split at h
    · rename_i xs hxs
      unfold s21 fS
      simp only [hxs]
      exact ⟨h.1, h.2 _ rfl⟩
    · exact h.elim) ok21

theorem ok25 : SpecOK Try.prog elTT 25 s25 :=
  fS_ok (cfg := cfgQ 25) (cfg_ok rfl rfl rfl) sigR_ok (fn := Try.f25) (by kernel_rfl) (by kernel_rfl) (by kernel_rfl) fun xs K hp hk => Eq.mpr (nf25 xs K) (br_intro (fun h0 => br_intro (fun h1 => by simpa only [v25_0, h0, h1, cond_true, cond_false] using hk) (fun h1 => by simpa only [v25_0, h0, h1, cond_true, cond_false] using hk)) (fun h0 => by simpa only [v25_0, h0, cond_true, cond_false] using hk))

theorem okq25 : SpecOK Try.prog elTT 25 q25 :=
  spec_mono (fun args H K h => by
    unfold q25 at h
    simp only at h
    split at h
    · rename_i xs hxs
      unfold s25 fS
      simp only [hxs]
      exact ⟨h.1, h.2 _ rfl⟩
    · exact h.elim) ok25

theorem ok27 : SpecOK Try.prog elTT 27 s27 :=
  fS_ok (cfg := cfgQ 27) (cfg_ok rfl rfl rfl) sigR_ok (fn := Try.f27) (by kernel_rfl) (by kernel_rfl) (by kernel_rfl) fun xs K hp hk => Eq.mpr (nf27 xs K) (br_intro (fun h0 => br_intro (fun h1 => by simpa only [v27_0, h0, h1, cond_true, cond_false] using hk) (fun h1 => by simpa only [v27_0, h0, h1, cond_true, cond_false] using hk)) (fun h0 => by simpa only [v27_0, h0, cond_true, cond_false] using hk))

theorem okq27 : SpecOK Try.prog elTT 27 q27 :=
  spec_mono (fun args H K h => by
    unfold q27 at h
    simp only at h
    split at h
    · rename_i xs hxs
      unfold s27 fS
      simp only [hxs]
      exact ⟨h.1, h.2 _ rfl⟩
    · exact h.elim) ok27

theorem ok29 : SpecOK Try.prog elTT 29 s29 :=
  fS_ok (cfg := cfgQ 29) (cfg_ok rfl rfl rfl) sigR_ok (fn := Try.f29) (by kernel_rfl) (by kernel_rfl) (by kernel_rfl) fun xs K hp hk => Eq.mpr (nf29 xs K) (br_intro (fun h0 => br_intro (fun h1 => by simpa only [v29_0, h0, h1, cond_true, cond_false] using hk) (fun h1 => by simpa only [v29_0, h0, h1, cond_true, cond_false] using hk)) (fun h0 => by simpa only [v29_0, h0, cond_true, cond_false] using hk))

theorem okq29 : SpecOK Try.prog elTT 29 q29 :=
  spec_mono (fun args H K h => by
    unfold q29 at h
    simp only at h
    split at h
    · rename_i xs hxs
      unfold s29 fS
      simp only [hxs]
      exact ⟨h.1, h.2 _ rfl⟩
    · exact h.elim) ok29

theorem ok31 : SpecOK Try.prog elTT 31 s31 :=
  fS_ok (cfg := cfgQ 31) (cfg_ok rfl rfl rfl) sigR_ok (fn := Try.f31) (by kernel_rfl) (by kernel_rfl) (by kernel_rfl) fun xs K hp hk => Eq.mpr (nf31 xs K) (br_intro (fun h0 => br_intro (fun h1 => by simpa only [v31_0, h0, h1, cond_true, cond_false] using hk) (fun h1 => by simpa only [v31_0, h0, h1, cond_true, cond_false] using hk)) (fun h0 => by simpa only [v31_0, h0, cond_true, cond_false] using hk))

theorem okq31 : SpecOK Try.prog elTT 31 q31 :=
  spec_mono (fun args H K h => by
    unfold q31 at h
    simp only at h
    split at h
    · rename_i xs hxs
      unfold s31 fS
      simp only [hxs]
      exact ⟨h.1, h.2 _ rfl⟩
    · exact h.elim) ok31

theorem ok33 : SpecOK Try.prog elTT 33 s33 :=
  fS_ok (cfg := cfgQ 33) (cfg_ok rfl rfl rfl) sigR_ok (fn := Try.f33) (by kernel_rfl) (by kernel_rfl) (by kernel_rfl) fun xs K hp hk => Eq.mpr (nf33 xs K) (br_intro (fun h0 => br_intro (fun h1 => by simpa only [v33_0, h0, h1, cond_true, cond_false] using hk) (fun h1 => by simpa only [v33_0, h0, h1, cond_true, cond_false] using hk)) (fun h0 => by simpa only [v33_0, h0, cond_true, cond_false] using hk))

theorem okq33 : SpecOK Try.prog elTT 33 q33 :=
  spec_mono (fun args H K h => by
    unfold q33 at h
    simp only at h
    split at h
    · rename_i xs hxs
      unfold s33 fS
      simp only [hxs]
      exact ⟨h.1, h.2 _ rfl⟩
    · exact h.elim) ok33

theorem ok35 : SpecOK Try.prog elTT 35 s35 :=
  fS_ok (cfg := cfgQ 35) (cfg_ok rfl rfl rfl) sigR_ok (fn := Try.f35) (by kernel_rfl) (by kernel_rfl) (by kernel_rfl) fun xs K hp hk => Eq.mpr (nf35 xs K) (br_intro (fun h0 => br_intro (fun h1 => by simpa only [v35_0, h0, h1, cond_true, cond_false] using hk) (fun h1 => by simpa only [v35_0, h0, h1, cond_true, cond_false] using hk)) (fun h0 => by simpa only [v35_0, h0, cond_true, cond_false] using hk))

theorem okq35 : SpecOK Try.prog elTT 35 q35 :=
  spec_mono (fun args H K h => by
    unfold q35 at h
    simp only at h
    split at h
    · rename_i xs hxs
      unfold s35 fS
      simp only [hxs]
      exact ⟨h.1, h.2 _ rfl⟩
    · exact h.elim) ok35

theorem ok40 : SpecOK Try.prog elTT 40 s40 :=
  fS_ok (cfg := cfgQ 40) (cfg_ok rfl rfl rfl) sigR_ok (fn := Try.f40) (by kernel_rfl) (by kernel_rfl) (by kernel_rfl) fun xs K hp hk => Eq.mpr (nf40 xs K) (br_intro (fun h0 => by simpa only [v40_0, v40_1, v40_2, h0, cond_true, cond_false] using hk) (fun h0 => br_intro (fun h1 => by simpa only [v40_0, v40_1, v40_2, h0, h1, cond_true, cond_false] using hk) (fun h1 => by simpa only [v40_0, v40_1, v40_2, h0, h1, cond_true, cond_false] using hk)))

theorem okq40 : SpecOK Try.prog elTT 40 q40 :=
  spec_mono (fun args H K h => by
    unfold q40 at h
    simp only at h
    split at h
    · rename_i xs hxs
      unfold s40 fS
      simp only [hxs]
      exact ⟨h.1, h.2 _ _ _ rfl rfl rfl⟩
    · exact h.elim) ok40

theorem ok46 : SpecOK Try.prog elTT 46 s46 :=
  fS_ok (cfg := cfgQ 46) (cfg_ok rfl rfl rfl) sigR_ok (fn := Try.f46) (by kernel_rfl) (by kernel_rfl) (by kernel_rfl) fun xs K hp hk => Eq.mpr (nf46 xs K) (br_intro (fun h0 => by simpa only [v46_0, h0, cond_true, cond_false] using hk) (fun h0 => br_intro (fun h1 => by simpa only [v46_0, h0, h1, cond_true, cond_false] using hk) (fun h1 => Req_intro ((hp h0) h1) (by simpa only [v46_0, h0, h1, cond_true, cond_false] using hk))))

theorem okq46 : SpecOK Try.prog elTT 46 q46 :=
  spec_mono (fun args H K h => by
    unfold q46 at h
    simp only at h
    split at h
    · rename_i xs hxs
      unfold s46 fS
      simp only [hxs]
      exact ⟨h.1, h.2 _ rfl⟩
    · exact h.elim) ok46

theorem ok48 : SpecOK Try.prog elTT 48 s48 :=
  fS_ok (cfg := cfgQ 48) (cfg_ok rfl rfl rfl) sigR_ok (fn := Try.f48) (by kernel_rfl) (by kernel_rfl) (by kernel_rfl) fun xs K hp hk => Eq.mpr (nf48 xs K) (br_intro (fun h0 => br_intro (fun h1 => by simpa only [v48_0, h0, h1, cond_true, cond_false] using hk) (fun h1 => by simpa only [v48_0, h0, h1, cond_true, cond_false] using hk)) (fun h0 => by simpa only [v48_0, h0, cond_true, cond_false] using hk))

theorem okq48 : SpecOK Try.prog elTT 48 q48 :=
  spec_mono (fun args H K h => by
    unfold q48 at h
    simp only at h
    split at h
    · rename_i xs hxs
      unfold s48 fS
      simp only [hxs]
      exact ⟨h.1, h.2 _ rfl⟩
    · exact h.elim) ok48

theorem ok49 : SpecOK Try.prog elTT 49 s49 :=
  fS_ok (cfg := cfgQ 49) (cfg_ok rfl rfl rfl) sigR_ok (fn := Try.f49) (by kernel_rfl) (by kernel_rfl) (by kernel_rfl) fun xs K hp hk => Eq.mpr (nf49 xs K) (br_intro (fun h0 => br_intro (fun h1 => by simpa only [v49_0, h0, h1, cond_true, cond_false] using hk) (fun h1 => by simpa only [v49_0, h0, h1, cond_true, cond_false] using hk)) (fun h0 => by simpa only [v49_0, h0, cond_true, cond_false] using hk))

theorem okq49 : SpecOK Try.prog elTT 49 q49 :=
  spec_mono (fun args H K h => by
    unfold q49 at h
    simp only at h
    split at h
    · rename_i xs hxs
      unfold s49 fS
      simp only [hxs]
      exact ⟨h.1, h.2 _ rfl⟩
    · exact h.elim) ok49

theorem ok47 : SpecOK Try.prog elTT 47 s47 :=
  fS_ok (cfg := cfgQ 47) (cfg_ok rfl rfl rfl) sigR_ok (fn := Try.f47) (by kernel_rfl) (by kernel_rfl) (by kernel_rfl) fun xs K hp hk => Eq.mpr (nf47 xs K) (br_intro (fun h0 => br_intro (fun h1 => br_intro (fun h2 => br_intro (fun h3 => by simpa only [v47_0, h0, h1, h2, h3, cond_true, cond_false] using hk) (fun h3 => by simpa only [v47_0, h0, h1, h2, h3, cond_true, cond_false] using hk)) (fun h2 => by simpa only [v47_0, h0, h1, h2, cond_true, cond_false] using hk)) (fun h1 => by simpa only [v47_0, h0, h1, cond_true, cond_false] using hk)) (fun h0 => by simpa only [v47_0, h0, cond_true, cond_false] using hk))

theorem okq47 : SpecOK Try.prog elTT 47 q47 :=
  spec_mono (fun args H K h => by
    unfold q47 at h
    simp only at h
    split at h
    · rename_i xs hxs
      unfold s47 fS
      simp only [hxs]
      exact ⟨h.1, h.2 _ rfl⟩
    · exact h.elim) ok47

end Go.Rx
end

section
namespace Go.Rx
open Go.Proofs

noncomputable def sigL : FuncId → Option Spec := fun f => match f with
  | 11 => some (fS [11] (fun _ => True) (fun c => vi (bif rightM c then 0 else 2)))
  | 12 => some (fS2 [11] rightM (fun c => .tup [layV c, vi 0]) (fun _ => .tup [lay0, vi 2]))
  | 13 => some (fS [11] (fun _ => True) (fun c => vb (rightM c)))
  | 14 => some s14
  | 15 => some s15
  | 18 => some s18
  | 20 => some s20
  | 22 => some s22
  | 24 => some s24
  | 26 => some s26
  | 28 => some s28
  | 30 => some s30
  | 32 => some s32
  | 34 => some s34
  | 37 => some s37
  | 38 => some s38
  | 39 => some s39
  | 44 => some s44
  | 45 => some s45
  | _ => none
noncomputable def cfg16 : Cfg := { cfgB with sigs := sigL }
end Go.Rx
end

section
/- Normal forms of the program's code (by a program of this session's; the kernel checks each). -/
namespace Go.Rx
open Go.Proofs
set_option maxRecDepth 100000
theorem nf16 (K : V → Heap → Prop) : (exF cfg16 Try.f16 [] [] K) = (
    ((
      ((Go.Rx.rightM [1, 1, 1, 1, 0, 0, 9, 1, 0, 0, 1] = Bool.true) → (
        ((
          True) ∧ (
          ((
            ((
              (Int.NonNeg (List.getD (Go.Rx.layM [1, 1, 1, 1, 0, 0, 9, 1, 0, 0, 1]) 2 0 - 0))) ∧ (
              (Int.NonNeg (1099511627776 - List.getD (Go.Rx.layM [1, 1, 1, 1, 0, 0, 9, 1, 0, 0, 1]) 2 0))))) ∧ (
            ((
              True) ∧ (
              ((
                (((List.getD (Go.Rx.layM [1, 1, 1, 1, 0, 0, 9, 1, 0, 0, 1]) 2 0 == 0) = Bool.false) → (
                  ((Decidable.decide (0 < 0) = Bool.false) → (
                    ((Decidable.decide (0 ≥ 5) = Bool.false) → (
                      (Decidable.decide (0 ≤ 0) = Bool.true)))))))) ∧ (
                ((
                  True) ∧ (
                  ((
                    True) ∧ (
                    ((
                      True) ∧ (
                      ((
                        True) ∧ (
                        K (vb (Go.Rx.v37_2 [List.getD (Go.Rx.layM [1, 1, 1, 1, 0, 0, 9, 1, 0, 0, 1]) 0 0, List.getD (Go.Rx.layM [1, 1, 1, 1, 0, 0, 9, 1, 0, 0, 1]) 1 0, List.getD (Go.Rx.layM [1, 1, 1, 1, 0, 0, 9, 1, 0, 0, 1]) 2 0, List.getD (Go.Rx.layM [1, 1, 1, 1, 0, 0, 9, 1, 0, 0, 1]) 3 0, List.getD (Go.Rx.layM [1, 1, 1, 1, 0, 0, 9, 1, 0, 0, 1]) 4 0, List.getD (Go.Rx.layM [1, 1, 1, 1, 0, 0, 9, 1, 0, 0, 1]) 5 0, List.getD (Go.Rx.layM [1, 1, 1, 1, 0, 0, 9, 1, 0, 0, 1]) 6 0, List.getD (Go.Rx.layM [1, 1, 1, 1, 0, 0, 9, 1, 0, 0, 1]) 7 0, List.getD (Go.Rx.layM [1, 1, 1, 1, 0, 0, 9, 1, 0, 0, 1]) 8 0, List.getD (Go.Rx.layM [1, 1, 1, 1, 0, 0, 9, 1, 0, 0, 1]) 9 0, List.getD (Go.Rx.layM [1, 1, 1, 1, 0, 0, 9, 1, 0, 0, 1]) 10 0, List.getD (Go.Rx.layM [1, 1, 1, 1, 0, 0, 9, 1, 0, 0, 1]) 11 0, List.getD (Go.Rx.layM [1, 1, 1, 1, 0, 0, 9, 1, 0, 0, 1]) 12 0, List.getD (Go.Rx.layM [1, 1, 1, 1, 0, 0, 9, 1, 0, 0, 1]) 13 0, List.getD (Go.Rx.layM [1, 1, 1, 1, 0, 0, 9, 1, 0, 0, 1]) 14 0, List.getD (Go.Rx.layM [1, 1, 1, 1, 0, 0, 9, 1, 0, 0, 1]) 15 0, List.getD (Go.Rx.layM [1, 1, 1, 1, 0, 0, 9, 1, 0, 0, 1]) 16 0, List.getD (Go.Rx.layM [1, 1, 1, 1, 0, 0, 9, 1, 0, 0, 1]) 17 0, List.getD (Go.Rx.layM [1, 1, 1, 1, 0, 0, 9, 1, 0, 0, 1]) 18 0, List.getD (Go.Rx.layM [1, 1, 1, 1, 0, 0, 9, 1, 0, 0, 1]) 19 0, List.getD (Go.Rx.layM [1, 1, 1, 1, 0, 0, 9, 1, 0, 0, 1]) 20 0, List.getD (Go.Rx.layM [1, 1, 1, 1, 0, 0, 9, 1, 0, 0, 1]) 21 0, List.getD (Go.Rx.layM [1, 1, 1, 1, 0, 0, 9, 1, 0, 0, 1]) 22 0, 130])) []))))))))))))))))))) ∧ (
      ((Go.Rx.rightM [1, 1, 1, 1, 0, 0, 9, 1, 0, 0, 1] = Bool.false) → (
        ((
          True) ∧ (
          K (vb (Bool.false)) []))))))) := by
  kernel_rfl

end Go.Rx
end

section
namespace Go.Rx
open Go.Proofs
attribute [local irreducible] Loop ex exF contK roundK retK at_ bodyOf mkEnv mkA

theorem sigL_ok : ∀ g s, sigL g = some s → SpecOK Try.prog elTT g s := by
  intro g s hs
  unfold sigL at hs
  split at hs
  · injection hs with hs; subst hs; exact check_ok
  · injection hs with hs; subst hs; exact of_ok
  · injection hs with hs; subst hs; exact right_ok
  · injection hs with hs; subst hs; exact ok14
  · injection hs with hs; subst hs; exact ok15
  · injection hs with hs; subst hs; exact ok18
  · injection hs with hs; subst hs; exact ok20
  · injection hs with hs; subst hs; exact ok22
  · injection hs with hs; subst hs; exact ok24
  · injection hs with hs; subst hs; exact ok26
  · injection hs with hs; subst hs; exact ok28
  · injection hs with hs; subst hs; exact ok30
  · injection hs with hs; subst hs; exact ok32
  · injection hs with hs; subst hs; exact ok34
  · injection hs with hs; subst hs; exact ok37
  · injection hs with hs; subst hs; exact ok38
  · injection hs with hs; subst hs; exact ok39
  · injection hs with hs; subst hs; exact ok44
  · injection hs with hs; subst hs; exact ok45
  · cases hs

def trueS : Spec := fS [] (fun _ => True) (fun _ => vb true)

theorem lives_ok : SpecOK Try.prog elTT 16 trueS :=
  fS_ok (cfg := cfg16) (cfg_ok rfl rfl rfl) sigL_ok (fn := Try.f16) (by kernel_rfl) (by kernel_rfl) (by kernel_rfl) fun xs K _ hk => by
    have e : mkA [] 0 xs = [] := by unfold mkA; rfl
    rw [e]
    refine Eq.mpr (nf16 K) ⟨fun _ => ⟨trivial, ⟨(show (0 : Int) ≤ 1 by decide), (show (1 : Int) ≤ 1099511627776 by decide)⟩, trivial, fun _ _ _ => by decide, trivial, trivial, trivial, trivial, hk⟩, fun h => ?_⟩
    have : (true : Bool) = false := h
    cases this

noncomputable def sig3 : FuncId → Option Spec := fun f => match f with
  | 16 => some trueS
  | f => sigL f
noncomputable def cfg3 : Cfg := { cfgB with sigs := sig3, plan := planOf 3 }
theorem sig3_ok : ∀ g s, sig3 g = some s → SpecOK Try.prog elTT g s := by
  intro g s hs
  unfold sig3 at hs
  split at hs
  · injection hs with hs; subst hs; exact lives_ok
  · exact sigL_ok _ _ hs
end Go.Rx
end

section
namespace Go.Rx
open Go.Proofs

def qOf : Spec where
  tr := fun args H K => match H, shA [11] args with
    | [], some xs => (rightM xs = true → ∀ L : List Int, L = layM xs → K (.tup [.agg (icV 23 0 L), vi 0]) []) ∧ (rightM xs = false → K (.tup [lay0, vi 2]) [])
    | _, _ => False

theorem qOf_ok : SpecOK Try.prog elTT 12 qOf := spec_mono (fun args H K h => by
  unfold qOf at h
  simp only at h
  split at h
  · rename_i xs hxs
    unfold fS2
    simp only [hxs]
    exact ⟨fun hr => h.1 hr _ rfl, h.2⟩
  · exact h.elim) of_ok

noncomputable def sigT : FuncId → Option Spec := fun f => match f with
  | 12 => some qOf
  | 14 => some s14
  | 15 => some q15
  | 16 => some trueS
  | 17 => some q17
  | 18 => some q18
  | 19 => some q19
  | 20 => some q20
  | 21 => some q21
  | 22 => some q22
  | 24 => some q24
  | 25 => some q25
  | 26 => some q26
  | 27 => some q27
  | 28 => some q28
  | 29 => some q29
  | 30 => some q30
  | 31 => some q31
  | 32 => some q32
  | 33 => some q33
  | 34 => some q34
  | 35 => some q35
  | 37 => some q37
  | 38 => some q38
  | 39 => some q39
  | 40 => some q40
  | 41 => some q41
  | 42 => some q42
  | 44 => some q44
  | 45 => some q45
  | 46 => some q46
  | 47 => some q47
  | 48 => some q48
  | 49 => some q49
  | _ => none
noncomputable def cfgT (n : Nat) : Cfg := { cfgB with sigs := sigT, plan := planOf n }
end Go.Rx
end

section
/- The laws' callees; a configuration that 'Some' makes may be. -/
namespace Go.Rx
open Go.Proofs

theorem sigT_ok : ∀ g s, sigT g = some s → SpecOK Try.prog elTT g s := by
  intro g s hs
  unfold sigT at hs
  split at hs
  · injection hs with hs; subst hs; exact qOf_ok
  · injection hs with hs; subst hs; exact ok14
  · injection hs with hs; subst hs; exact okq15
  · injection hs with hs; subst hs; exact lives_ok
  · injection hs with hs; subst hs; exact okq17
  · injection hs with hs; subst hs; exact okq18
  · injection hs with hs; subst hs; exact okq19
  · injection hs with hs; subst hs; exact okq20
  · injection hs with hs; subst hs; exact okq21
  · injection hs with hs; subst hs; exact okq22
  · injection hs with hs; subst hs; exact okq24
  · injection hs with hs; subst hs; exact okq25
  · injection hs with hs; subst hs; exact okq26
  · injection hs with hs; subst hs; exact okq27
  · injection hs with hs; subst hs; exact okq28
  · injection hs with hs; subst hs; exact okq29
  · injection hs with hs; subst hs; exact okq30
  · injection hs with hs; subst hs; exact okq31
  · injection hs with hs; subst hs; exact okq32
  · injection hs with hs; subst hs; exact okq33
  · injection hs with hs; subst hs; exact okq34
  · injection hs with hs; subst hs; exact okq35
  · injection hs with hs; subst hs; exact okq37
  · injection hs with hs; subst hs; exact okq38
  · injection hs with hs; subst hs; exact okq39
  · injection hs with hs; subst hs; exact okq40
  · injection hs with hs; subst hs; exact okq41
  · injection hs with hs; subst hs; exact okq42
  · injection hs with hs; subst hs; exact okq44
  · injection hs with hs; subst hs; exact okq45
  · injection hs with hs; subst hs; exact okq46
  · injection hs with hs; subst hs; exact okq47
  · injection hs with hs; subst hs; exact okq48
  · injection hs with hs; subst hs; exact okq49
  · cases hs

theorem u64_pos (x : Int) : 0 ≤ IntKind.u64.wrap x := wrap_u64_nonneg x

theorem within_of (x lo n : Int) (h0 : 0 ≤ lo) (h1 : lo ≤ 1) (h2 : 1 ≤ n) (h3 : n ≤ 1099511627777) : lo ≤ IntKind.i64.wrap (lo + IntKind.i64.wrap (Int.tmod (IntKind.u64.wrap x) n)) ∧
    IntKind.i64.wrap (lo + IntKind.i64.wrap (Int.tmod (IntKind.u64.wrap x) n)) ≤ lo + n - 1 := by
  have hp := u64_pos x
  rw [Int.tmod_eq_emod_of_nonneg hp]
  have a := Int.emod_nonneg (IntKind.u64.wrap x) (show n ≠ 0 by omega)
  have b := Int.emod_lt_of_pos (IntKind.u64.wrap x) (show 0 < n by omega)
  simp (disch := omega) only [wrap_id]
  omega

/-- What 'Some' makes. -/
def someM (c : List Int) : List Int := [v17_0 c, v17_1 c, v17_2 c, v17_3 c, v17_4 c, v17_5 c, v17_6 c, v17_7 c, v17_8 c, v17_9 c, v17_10 c]

theorem some_right (c : List Int) : Right (someM c) := by
  refine ⟨?_, ?_, ?_, ?_, ?_, ?_, ?_, ?_, ?_, ?_, ?_⟩
  · exact within_of (c.getD 0 0) 1 64 (by decide) (by decide) (by decide) (by decide)
  · exact within_of (c.getD 1 0) 1 8 (by decide) (by decide) (by decide) (by decide)
  · exact within_of (c.getD 2 0) 1 256 (by decide) (by decide) (by decide) (by decide)
  · exact within_of (c.getD 3 0) 1 64 (by decide) (by decide) (by decide) (by decide)
  · exact within_of (c.getD 4 0) 0 17 (by decide) (by decide) (by decide) (by decide)
  · exact within_of (c.getD 5 0) 0 65 (by decide) (by decide) (by decide) (by decide)
  · exact within_of (c.getD 6 0) 1 1099511627776 (by decide) (by decide) (by decide) (by decide)
  · exact within_of (c.getD 7 0) 1 8 (by decide) (by decide) (by decide) (by decide)
  · exact within_of (c.getD 8 0) 0 9 (by decide) (by decide) (by decide) (by decide)
  · exact within_of (c.getD 9 0) 0 17 (by decide) (by decide) (by decide) (by decide)
  · exact within_of (c.getD 10 0) 1 8 (by decide) (by decide) (by decide) (by decide)

end Go.Rx
end

section
/- Functions that defer a call; a deferred function that recovers, where nothing panicked. -/
namespace Go.Rx

variable {cfg : Cfg} {ρ : List Value} {F : Nat → List Nat} {H : Heap} {w : World}

/-- A deferred function's contract. -/
def SpecDOK (P : Program) (elT : ET) (g : FuncId) (s : Spec) : Prop :=
  (∃ fn, P.funcs[g]? = some fn ∧ (fn.name == "runtime.NumGoroutine") = false ∧ fn.body.isNone = false) ∧
  ∀ (args : List V) (H : Heap) (K : V → Heap → Prop), s.tr args H K → ∀ (ρ : List Value) (F : Nat → List Nat) (w : World) (vals : List Value), denL ρ args = some vals → Sat elT ρ F H w →
    CallsD P g vals.toArray .returning w fun e u' w' => u' = .returning ∧ ∃ v x ρ' F' H', e = .returned x ∧ K v H' ∧ Rel ρ' v x ∧ Le ρ ρ' ∧ Sat elT ρ' F' H' w' ∧ Fr H F w H' F' w'

theorem specD_of_exF (ok : CfgOK cfg) (hsig : ∀ g s, cfg.sigs g = some s → SpecOK cfg.P cfg.elT g s) {g : FuncId} {fn : Func} {s : Spec} (hg : cfg.P.funcs[g]? = some fn) (hname : (fn.name == "runtime.NumGoroutine") = false) (hb : fn.body.isNone = false)
    (h : ∀ (args : List V) (H : Heap) (K : V → Heap → Prop), s.tr args H K → exF cfg fn args H K) : SpecDOK cfg.P cfg.elT g s := by
  refine ⟨⟨fn, hg, hname, hb⟩, fun args H K htr ρ F w vals hden hsat => ?_⟩
  have hex := h args H K htr
  cases hc : fn.body with
  | none => rw [hc] at hb; cases hb
  | some c => exact callsD_of_wp hg hc (wp_of_exF ok hsig hc hex hden hsat)

/-- Where nothing panicked a 'recover' tells nil. -/
def noRecO (o : Oper) : Oper := match o.op with
  | .call c => match c.callee with
    | .builtin .recover => { o with op := .assign (.const .nilIface) }
    | _ => o
  | _ => o

theorem noRecO_cases (o : Oper) : (noRecO o = o) ∨ (∃ c, o.op = .call c ∧ c.callee = .builtin .recover ∧ noRecO o = { o with op := .assign (.const .nilIface) }) := by
  unfold noRecO
  split
  · rename_i c hc
    split
    · rename_i hr; exact .inr ⟨c, hc, hr, rfl⟩
    · exact .inl rfl
  · exact .inl rfl

theorem noRecO_same (o : Oper) : (noRecO o).dst = o.dst ∧ (noRecO o).guard = o.guard ∧ (noRecO o).after = o.after := by
  rcases noRecO_cases o with h | ⟨c, _, _, h⟩ <;> rw [h] <;> exact ⟨rfl, rfl, rfl⟩

theorem yielded_noRec (ops : Array Oper) (tmps : Array Value) : yielded (ops.map noRecO) tmps = yielded ops tmps := by
  funext j
  unfold yielded
  rw [Array.getElem?_map]
  cases ops[j]? with
  | none => rfl
  | some o => simp only [Option.map_some, Option.bind_some, (noRecO_same o).1]

theorem linearise_noRec (ops : Array Oper) : ∀ (fuel t : Nat) (listed : Array Bool) (acc : List Nat), Region.linearise.go .any (ops.map noRecO) fuel t listed acc = Region.linearise.go .any ops fuel t listed acc
  | 0, _, _, _ => rfl
  | fuel + 1, t, listed, acc => by
    have hrs : ((List.range (ops.map noRecO).size).filter fun i => !listed.getD i true && (((ops.map noRecO)[i]?).map (·.after.all fun e => !Region.binds .any e || listed.getD e.on false)).getD false) =
        ((List.range ops.size).filter fun i => !listed.getD i true && ((ops[i]?).map (·.after.all fun e => !Region.binds .any e || listed.getD e.on false)).getD false) := by
      rw [Array.size_map]
      refine List.filter_congr fun i _ => ?_
      rw [Array.getElem?_map]
      cases ops[i]? with
      | none => rfl
      | some o => simp only [Option.map_some, (noRecO_same o).2.2]
    unfold Region.linearise.go
    simp only [hrs]
    split
    · exact linearise_noRec ops fuel _ _ _
    · rfl

theorem run_recover {P : Program} {o : Oper} {c : Call} (h : o.op = .call c) (hr : c.callee = .builtin .recover) (a : Act) (w : World) : (execOp a.eval o).run P w = .ok .recover w := by
  obtain ⟨callee, args, ts⟩ := c
  simp only at hr
  subst hr
  simp [execOp, h, resolve, invoke, builtin]

theorem opsS_of_ops {P : Program} {ops : Array Oper} {Q : Exit → Act → World → Prop} (hout : ∀ a w, ¬ Q .outgrown a w) {cs : List Frame} (hrec : recoverD cs = none) :
    ∀ (l : List Nat) (a : Act) (w : World), wpOps P (ops.map noRecO) Q l a w → wpOpsS P ops (fun e a cs' w => cs' = cs ∧ Q e a w) l a cs w
  | [], a, w, h => ⟨rfl, h⟩
  | i :: rest, a, w, h => by
    have ih := opsS_of_ops (P := P) (ops := ops) hout hrec rest
    simp only [wpOps, Array.getElem?_map] at h
    simp only [wpOpsS]
    cases ho : ops[i]? with
    | none =>
      rw [ho] at h
      exact ih a w h
    | some o =>
      rw [ho] at h
      simp only [Option.map_some, yielded_noRec] at h
      have hw : Region.wanted (noRecO o) (yielded ops a.tmps) = Region.wanted o (yielded ops a.tmps) := by
        unfold Region.wanted
        rw [(noRecO_same o).2.1]
      rw [hw, (noRecO_same o).1] at h
      simp only
      split
      · rename_i hwt
        rw [if_pos hwt] at h
        have h : (noRecO o).wp P a w (wpOps P (ops.map noRecO) Q rest) Q := h.resolve_right fun ⟨_, a', w', hq⟩ => hout a' w' hq
        rcases noRecO_cases o with hn | ⟨c, h1, h2, h3⟩
        · rw [hn] at h
          unfold Oper.wp at h
          generalize hr : (execOp a.eval o).run P w = r at h ⊢
          cases r with
          | ok n w' =>
            cases n <;> simp only [Oper.upon] at h ⊢
            all_goals first
              | exact h.elim
              | exact ih _ _ h
              | exact Calls.mono h (fun e w'' he => by cases e <;> first | exact ih _ _ he | exact ⟨rfl, he⟩ | exact ⟨trivial, he⟩ | exact he | (obtain ⟨a', w₀, hq⟩ := he; exact absurd hq (hout _ _)))
              | exact Rows.mono h (fun _ _ he => ih _ _ he)
          | halt x w' => cases x <;> simp only [Oper.upon] at h ⊢ <;> first | exact h.elim | exact ⟨rfl, h⟩ | exact ⟨trivial, h⟩ | exact h
        · rw [run_recover h1 h2]
          simp only [hrec]
          rw [h3] at h
          have h' : wpOps P (ops.map noRecO) Q rest (a.put o.dst .nilIface) w := h
          exact ih _ _ h'
      · rename_i hwt
        rw [if_neg hwt] at h
        exact ih _ _ h

theorem wpS_region_draw {P : Program} {id : Nat} {ops : Array Oper} {Q : Exit → Act → List Frame → World → Prop} {a : Act} {cs : List Frame} {w : World}
    (h : ∀ t, wpOpsS P ops Q (Region.schedule (P.follows .mixedOrders) ops t) a cs { w with drawn := w.drawn + 1 }) : (Code.region id ops true).wpS P Q a cs w :=
  fun b k hb hr => let ⟨e, a', cs', w', q, r⟩ := wp_opsS _ a cs _ (h _) b k hb hr; ⟨e, a', cs', w', q, .of_steps (.one step_region_draw) r⟩

/-- A deferred function of one region, in which it recovers. -/
theorem specD_of_exF_rec (ok : CfgOK cfg) (hsig : ∀ g s, cfg.sigs g = some s → SpecOK cfg.P cfg.elT g s) {g : FuncId} {fn : Func} {s : Spec} (hg : cfg.P.funcs[g]? = some fn) (hname : (fn.name == "runtime.NumGoroutine") = false)
    {id : Nat} {ops : Array Oper} (hc : fn.body = some (.region id ops true)) {plan : List Nat} {kd : Nat} (hpT : cfg.planT id = none) (hpl : cfg.plan id = some (plan, kd))
    (h : ∀ (args : List V) (H : Heap) (K : V → Heap → Prop), s.tr args H K → exF cfg { fn with body := some (.region id (ops.map noRecO) true) } args H K) : SpecDOK cfg.P cfg.elT g s := by
  refine ⟨⟨fn, hg, hname, by rw [hc]; rfl⟩, fun args H K htr ρ F w vals hden hsat => ?_⟩
  have hex := h args H K htr
  have hex : (match cfg.planT id with
       | some (p, kd) => bif planOkT (ops.map noRecO) p then exOpsT cfg (cxOf fn args H).nt (some (lkOf kd)) (early (ops.map noRecO).toList) (some H) (ops.map noRecO).toList p (argEnv args) H (retK cfg fn H.length K .normal) else False
       | none => match cfg.plan id with
        | some (plan, kd) => bif planOk (ops.map noRecO) plan then exOps cfg (cxOf fn args H).nt (some (lkOf kd)) (early (ops.map noRecO).toList) (some H) (ops.map noRecO).toList plan (argEnv args) H (retK cfg fn H.length K .normal) else False
        | none => False) := hex
  rw [hpT, hpl] at hex
  simp only at hex
  have hcd := cond_elim hex
  have hc1 := hcd.1
  simp only [planOk, Bool.and_eq_true] at hc1
  obtain ⟨⟨hsel, hlen⟩, hgo⟩ := hc1
  have hlen : plan.length = (ops.map noRecO).size := by simpa using hlen
  have hl := denL_len hden
  have hd := hsat.drew
  have hst : St cfg (cxOf fn args H).nt [] ρ F (argEnv args) H { tmps := vals.toArray ++ Array.replicate (fn.ntmps - vals.toArray.size) undef, defers := [] } w.drew :=
    ⟨argEnv_rel hden _, by simp [cxOf, hl], rfl, hd⟩
  have hs0 : St0 cfg (cxOf fn args H) [] ρ F H w ρ F (argEnv args) H { tmps := vals.toArray ++ Array.replicate (fn.ntmps - vals.toArray.size) undef, defers := [] } w.drew :=
    ⟨hst, Fr.refl.trans Fr.drew, fun _ _ => rfl⟩
  have hp : (cxOf fn args H).pins ≤ ρ.length := by rw [hsat.len]; exact Nat.le_refl _
  have hany := exOps_drawn (nt := (cxOf fn args H).nt) (f := lkOf kd) (ops := ops.map noRecO) ok hsig (lkOK_lkOf kd) hsel (Q := QK cfg (cxOf fn args H) [] ρ F H w (retK cfg fn H.length K)) (fun _ _ _ h => h) hd plan
    (Array.replicate (ops.map noRecO).size false) ρ F H w.drew (argEnv args) _ hgo (by simp) (closed_start _) hcd.2 hst (.refl hd) (fun _ _ _ => rfl)
    (fun ρ' F' H' w' env' a' h1 h2 h3 => ⟨ρ', F', env', H', hs0.step hp h2 h3, h1⟩)
  rw [hlen] at hany
  refine callsD_of_wpS hg hc fun c₀ cs hmode => wpS_region_draw fun t => ?_
  have hops := wpAny_sound (P := cfg.P) (ops := ops.map noRecO) (md := .any) (ops.map noRecO).size t _ _ _ (wpAny_of_G _ _ _ _ hany)
  have hsched : Region.schedule (cfg.P.follows .mixedOrders) ops t = Region.linearise.go .any (ops.map noRecO) (ops.map noRecO).size t (Array.replicate (ops.map noRecO).size false) [] := by
    simp only [Region.schedule, ok.mixed, Bool.true_or, if_true, Region.linearise]
    rw [linearise_noRec, Array.size_map]
  rw [hsched]
  have hrec : recoverD (c₀ :: cs) = none := by simp [recoverD, hmode]
  have hS := opsS_of_ops (Q := QK cfg (cxOf fn args H) [] ρ F H w (retK cfg fn H.length K)) (fun _ _ h => h) hrec _ _ _ hops
  have mono : ∀ (l : List Nat) (a : Act) (w' : World), wpOpsS cfg.P ops (fun e a cs' w' => cs' = c₀ :: cs ∧ QK cfg (cxOf fn args H) [] ρ F H w (retK cfg fn H.length K) e a w') l a (c₀ :: cs) w' →
      wpOpsS cfg.P ops (bodyPostS cfg.P fn c₀ cs fun e u' w' => u' = .returning ∧ ∃ v x ρ' F' H', e = .returned x ∧ K v H' ∧ Rel ρ' v x ∧ Le ρ ρ' ∧ Sat cfg.elT ρ' F' H' w' ∧ Fr H F w H' F' w') l a (c₀ :: cs) w' := by
    intro l
    induction l with
    | nil =>
      intro a w' h
      obtain ⟨_, ρ1, F1, env1, H1, h1, h2⟩ := h
      obtain ⟨v, hv, hrest⟩ := ret_sound hsat h1 h2
      exact ⟨h1.st.defers, .returning, by rw [← hmode], v, hv, rfl, hrest⟩
    | cons i rest ih =>
      intro a w' h
      simp only [wpOpsS] at h ⊢
      cases ho : ops[i]? with
      | none => rw [ho] at h; exact ih _ _ h
      | some o =>
        rw [ho] at h
        simp only at h ⊢
        split
        · rename_i hwt
          rw [if_pos hwt] at h
          generalize hr : (execOp a.eval o).run cfg.P w' = r at h ⊢
          cases r with
          | ok n w2 =>
            cases n <;> simp only [Oper.upon, hrec] at h ⊢
            all_goals first
              | exact h.elim
              | exact ih _ _ h
              | exact Calls.mono h (fun e w'' he => by cases e <;> first | exact ih _ _ he | exact he.2.elim | exact he.elim | (obtain ⟨_, _, hq⟩ := he; first | exact hq.2.elim | exact hq.elim))
              | exact Rows.mono h (fun _ _ he => ih _ _ he)
          | halt x w2 => cases x <;> simp only [Oper.upon] at h ⊢ <;> first | exact h.elim | exact h.2.elim | skip
        · rename_i hwt
          rw [if_neg hwt] at h
          exact ih _ _ h
  exact mono _ _ _ hS
end Go.Rx
end

section
/- Functions that defer one call of a closure: their code in parts. -/
namespace Go.Rx

def lastDefer (ops : List Oper) : Bool := match ops[ops.length - 1]? with
  | some o => match o.op with
    | .defer _ => true
    | _ => false
  | none => false

/-- Code in a row. -/
def exR (cfg : Cfg) (nt : Nat) : Code → Env → Heap → (Env → Heap → Prop) → Prop
  | .ret, env, H, K => K env H
  | .skip, env, H, K => K env H
  | .region _ ops draw, env, H, K => match draw with
    | false => exOps cfg nt none (fun _ => true) none ops.toList (List.range ops.toList.length) env H K
    | true => False
  | .seq a b, env, H, K => match a with
    | .region _ ops draw => match draw with
      | false => exOps cfg nt none (fun _ => true) none ops.toList (List.range ops.toList.length) env H (fun env H => exR cfg nt b env H K)
      | true => False
    | _ => False
  | _, _, _, _ => False

/-- Behind the region that defers. -/
def exDf (cfg : Cfg) (nt : Nat) (sd : FuncId → Option Spec) (fin : Env → Heap → Prop) (ops : List Oper) (c1 : Code) (env : Env) (H : Heap) : Prop :=
  match ops[ops.length - 1]? with
  | some o => match o.guard with
    | none => match o.op with
      | .defer c => match c.callee with
        | .value f => bif c.args.toList.isEmpty then exOps cfg nt none (fun _ => true) none ops (List.range (ops.length - 1)) env H fun env H => match ev env f with
          | .fn g caps => match sd g with
            | some s => exR cfg nt c1 (updO nt env o.dst (.ext undef)) H fun env H => callC s caps H none fun _ H => fin env H
            | none => False
          | _ => False
          else False
        | _ => False
      | _ => False
    | _ => False
  | none => False

def isDefR : Code → Bool
  | .region _ ops false => lastDefer ops.toList
  | _ => false

def opsOf : Code → List Oper
  | .region _ ops _ => ops.toList
  | _ => []

def exS (cfg : Cfg) (cx : Cx) (sd : FuncId → Option Spec) (fin : Env → Heap → Prop) : Code → Env → Heap → Prop
  | .seq a b, env, H => bif isDefR a then exDf cfg cx.nt sd fin (opsOf a) b env H else
      ex cfg cx a env H fun e env H => match e with
        | .normal => exS cfg cx sd fin b env H
        | .ret => fin env H
        | .exit _ => False
  | _, _, _ => False

def exFD (cfg : Cfg) (sd : FuncId → Option Spec) (fn : Func) (args : List V) (H : Heap) (K : V → Heap → Prop) : Prop :=
  match fn.body with
  | some c => exS cfg (cxOf fn args H) sd (retK cfg fn H.length K .normal) c (argEnv args) H
  | none => False

variable {cfg : Cfg} {ρ : List Value} {F : Nat → List Nat} {H : Heap} {w : World}

theorem exR_sound (ok : CfgOK cfg) (hsig : ∀ g s, cfg.sigs g = some s → SpecOK cfg.P cfg.elT g s) {nt : Nat} {ds : List Deferred} : ∀ (c : Code) (K : Env → Heap → Prop) (env : Env) (H : Heap) (ρ : List Value) (F : Nat → List Nat) (a : Act) (w : World),
    exR cfg nt c env H K → St cfg nt ds ρ F env H a w → c.wp cfg.P (fun e a' w' => (e = .normal ∨ e = .ret) ∧ ∃ ρ' F' env' H', St cfg nt ds ρ' F' env' H' a' w' ∧ Step cfg none ρ F H w ρ' F' H' w' ∧ K env' H') a w := by
  intro c
  induction c with
  | ret => intro K env H ρ F a w h hs; exact wp_ret ⟨.inr rfl, ρ, F, env, H, hs, .refl hs.sat, h⟩
  | skip => intro K env H ρ F a w h hs; exact wp_skip ⟨.inl rfl, ρ, F, env, H, hs, .refl hs.sat, h⟩
  | region id ops draw =>
    intro K env H ρ F a w h hs
    cases draw with
    | true => exact h.elim
    | false =>
      have h : exOps cfg nt none (fun _ => true) none ops.toList (List.range ops.toList.length) env H K := h
      rw [Array.length_toList] at h
      exact wp_region (exOps_wpOps ok hsig _ ρ F H w env a h hs (fun ρ' F' H' w' env' a' h1 h2 h3 => ⟨.inl rfl, ρ', F', env', H', h2, h3, h1⟩))
  | seq x y ihx ihy =>
    intro K env H ρ F a w h hs
    cases x with
    | region id ops draw =>
      cases draw with
      | true => exact h.elim
      | false =>
        have h : exOps cfg nt none (fun _ => true) none ops.toList (List.range ops.toList.length) env H (fun env H => exR cfg nt y env H K) := h
        rw [Array.length_toList] at h
        refine wp_seq (wp_region (exOps_wpOps ok hsig _ ρ F H w env a h hs (fun ρ' F' H' w' env' a' h1 h2 h3 => ?_)))
        refine wp_mono (ihy K env' H' ρ' F' a' w' h1 h2) (fun e a2 w2 hq => ?_)
        obtain ⟨q1, ρ2, F2, env2, H2, q2, q3, q4⟩ := hq
        exact ⟨q1, ρ2, F2, env2, H2, q2, h3.trans q3, q4⟩
    | _ => exact h.elim
  | _ => intro K env H ρ F a w h hs; exact h.elim

theorem exS_sound (ok : CfgOK cfg) (hsig : ∀ g s, cfg.sigs g = some s → SpecOK cfg.P cfg.elT g s) {sd : FuncId → Option Spec} (hsd : ∀ g s, sd g = some s → SpecDOK cfg.P cfg.elT g s)
    {fn : Func} {args : List V} {H0 : Heap} {K : V → Heap → Prop} {ρ0 : List Value} {F0 : Nat → List Nat} {w0 : World} (hsat0 : Sat cfg.elT ρ0 F0 H0 w0) :
    ∀ (c : Code) (env : Env) (H : Heap) (ρ : List Value) (F : Nat → List Nat) (a : Act) (w : World), exS cfg (cxOf fn args H0) sd (retK cfg fn H0.length K .normal) c env H → St0 cfg (cxOf fn args H0) [] ρ0 F0 H0 w0 ρ F env H a w →
      c.wp cfg.P (bodyPostD cfg.P fn fun e w' => ∃ v x ρ' F' H', e = .returned x ∧ K v H' ∧ Rel ρ' v x ∧ Le ρ0 ρ' ∧ Sat cfg.elT ρ' F' H' w' ∧ Fr H0 F0 w0 H' F' w') a w := by
  have hp : (cxOf fn args H0).pins ≤ ρ0.length := by rw [hsat0.len]; exact Nat.le_refl _
  -- the end, where nothing is deferred
  have fin0 : ∀ (ρ : List Value) (F : Nat → List Nat) (env : Env) (H : Heap) (a : Act) (w : World) (ds : List Deferred), St0 cfg (cxOf fn args H0) ds ρ0 F0 H0 w0 ρ F env H a w → retK cfg fn H0.length K .normal env H →
      Leaves cfg.P fn a.tmps (fun e w' => ∃ v x ρ' F' H', e = .returned x ∧ K v H' ∧ Rel ρ' v x ∧ Le ρ0 ρ' ∧ Sat cfg.elT ρ' F' H' w' ∧ Fr H0 F0 w0 H' F' w') [] .returning w := by
    intro ρ F env H a w ds hs hr
    obtain ⟨v, hv, hrest⟩ := ret_sound hsat0 hs hr
    exact ⟨v, hv, hrest⟩
  intro c
  induction c with
  | seq x y ihx ihy =>
    intro env H ρ F a w h hs
    simp only [exS] at h
    cases hd : isDefR x with
    | false =>
      rw [hd] at h
      simp only [cond_false] at h
      refine wp_seq (wp_mono (ex_sound ok hsig hp x _ env H ρ F a w h hs) (fun e a' w' hq => ?_))
      cases e with
      | normal => obtain ⟨ρ', F', env', H', h1, h2⟩ := hq; exact ihy env' H' ρ' F' a' w' h2 h1
      | ret =>
        obtain ⟨ρ', F', env', H', h1, h2⟩ := hq
        show Leaves cfg.P fn a'.tmps _ a'.defers .returning w'
        rw [h1.st.defers]
        exact fin0 ρ' F' env' H' a' w' [] h1 h2
      | exit i => obtain ⟨ρ', F', env', H', h1, h2⟩ := hq; exact h2.elim
      | goto l => exact hq.elim
      | panic ch => exact hq.elim
      | outgrown => exact hq.elim
    | true =>
      rw [hd] at h
      simp only [cond_true] at h
      cases x with
      | region id ops draw =>
        cases draw with
        | true => cases hd
        | false =>
          simp only [opsOf, exDf] at h
          split at h
          · rename_i o ho
            split at h
            · rename_i hg
              split at h
              · rename_i c hop
                obtain ⟨callee, cargs, cts⟩ := c
                split at h
                · rename_i f hcal
                  simp only at hcal
                  subst hcal
                  have hcd := cond_elim h
                  have hargs := list0 hcd.1
                  simp only at hargs
                  subst hargs
                  have h := hcd.2
                  have hsz : ops.toList.length = (ops.size - 1) + 1 := by
                    rw [Array.length_toList]
                    have := (List.getElem?_eq_some_iff.1 ho).1
                    rw [Array.length_toList] at this
                    omega
                  have ho' : ops[ops.size - 1]? = some o := by rw [← Array.getElem?_toList, ← Array.length_toList]; exact ho
                  rw [Array.length_toList] at h
                  refine wp_seq (wp_region ?_)
                  rw [show ops.size = (ops.size - 1) + 1 by rw [Array.length_toList] at hsz; exact hsz, List.range_succ]
                  -- the operations ahead of the last one
                  have pre : ∀ (Q : Exit → Act → World → Prop) (l : List Nat) (j : Nat) (a : Act) (w : World), wpOps cfg.P ops (fun e a w => match e with | .normal => wpOps cfg.P ops Q [j] a w | e => Q e a w) l a w → (¬ ∃ a w, Q .outgrown a w) → wpOps cfg.P ops Q (l ++ [j]) a w := by
                    intro Q l j
                    induction l with
                    | nil => intro a w h _; exact h
                    | cons i r ih =>
                      intro a w h hno
                      rw [List.cons_append, wpOps_cons]
                      rw [wpOps_cons] at h
                      unfold wpOp at h ⊢
                      split
                      · rename_i hn; rw [hn] at h; exact ih _ _ h hno
                      · rename_i oi hoi
                        rw [hoi] at h
                        simp only at h ⊢
                        split
                        · rename_i hwt
                          rw [if_pos hwt] at h
                          refine .inl ?_
                          have h := h.resolve_right (fun ⟨_, a', w', hq⟩ => hno ⟨a', w', hq⟩)
                          unfold Oper.wp at h ⊢
                          generalize (execOp a.eval oi).run cfg.P w = r at h ⊢
                          cases r with
                          | ok n w' =>
                            cases n <;> simp only [Oper.upon] at h ⊢
                            all_goals first
                              | exact h.elim
                              | exact ih _ _ h hno
                              | exact Calls.mono h (fun e w'' he => by cases e <;> first | exact ih _ _ he hno | exact he | (obtain ⟨a', w₀, hq⟩ := he; exact ⟨a', w₀, hq⟩))
                              | exact Rows.mono h (fun _ _ he => ih _ _ he hno)
                          | halt x w' => cases x <;> simp only [Oper.upon] at h ⊢ <;> exact h
                        · rename_i hwt
                          rw [if_neg hwt] at h
                          exact ih _ _ h hno
                  refine pre _ _ _ _ _ ?_ ?_
                  rotate_left
                  · rintro ⟨a', w', v, x, ρ', F', H', he, _⟩
                    cases he
                  refine exOps_wpOps (ds := []) ok hsig _ ρ F H w env a h hs.st (fun ρ1 F1 H1 w1 env1 a1 h1 h2 h3 => ?_)
                  simp only [wpOps, ho']
                  have hwt : Region.wanted o (yielded ops a1.tmps) = true := by unfold Region.wanted; rw [hg]
                  rw [if_pos hwt]
                  refine .inl ?_
                  split at h1
                  · rename_i g caps hgf
                    split at h1
                    · rename_i s hsg
                      have hfd := REnv.ev h2.env f
                      rw [hgf] at hfd
                      have hfd := hfd.den (by simp)
                      simp only [V.den] at hfd
                      split at hfd
                      · rename_i cs hcs
                        injection hfd with hfd
                        obtain ⟨⟨fg, f1, f2, f3⟩, hspec⟩ := hsd g s hsg
                        have hrun : (execOp a1.eval o).run cfg.P w1 = .ok (.defer { target := .fn (.func g) cs.toArray, args := #[] }) w1 := by
                          obtain ⟨dst, op, type, pos, after, guard⟩ := o
                          simp only at hop
                          subst hop
                          simp only [execOp, resolve, ← hfd, Deferred.ofValue, Sem.run_bind, Sem.run_pure, Result.andThen_ok]
                          simp
                        unfold Oper.wp
                        rw [hrun, Oper.upon_defer]
                        -- behind it
                        have hst2 : St cfg (cxOf fn args H0).nt [{ target := .fn (.func g) cs.toArray, args := #[] }] ρ1 F1 (updO (cxOf fn args H0).nt env1 o.dst (.ext undef)) H1 (({ a1 with defers := { target := .fn (.func g) cs.toArray, args := #[] } :: a1.defers } : Act).put o.dst undef) w1 := by
                          have := (h2.put (lk := none) (.refl h2.sat) (v := .ext undef) (x := undef) (.inr rfl) o.dst)
                          refine ⟨?_, ?_, ?_, h2.sat⟩
                          · have e := this.env
                            cases hdst : o.dst with
                            | none => rw [hdst] at e; exact e
                            | some d => rw [hdst] at e; exact e
                          · have e := this.size
                            cases hdst : o.dst with
                            | none => rw [hdst] at e; exact e
                            | some d => rw [hdst] at e; exact e
                          · cases hdst : o.dst with
                            | none => show _ :: a1.defers = _; rw [h2.defers]
                            | some d => show _ :: a1.defers = _; rw [h2.defers]
                        show (y.wp cfg.P _ _ w1)
                        refine wp_mono (exR_sound ok hsig y _ _ H1 ρ1 F1 _ w1 h1 hst2) (fun e a2 w2 hq => ?_)
                        obtain ⟨q1, ρ2, F2, env2, H2, q2, q3, q4⟩ := hq
                        have hcs2 : denL ρ2 caps = some cs := denL_le q3.le _ _ hcs
                        have hend : Leaves cfg.P fn a2.tmps (fun e w' => ∃ v x ρ' F' H', e = .returned x ∧ K v H' ∧ Rel ρ' v x ∧ Le ρ0 ρ' ∧ Sat cfg.elT ρ' F' H' w' ∧ Fr H0 F0 w0 H' F' w') a2.defers .returning w2 := by
                          rw [q2.defers]
                          refine leaves_cons (by simp) (f := g) (args := cs.toArray) ?_ ?_
                          · simp only [invoke, run_callFunc f1 f2 f3]
                            simp
                          · have hcall := callC_gen (cfg := cfg) (lk := none) (fun _ h => by cases h) (s := s) (vals := cs) (w := w2) (fun R => CallsD cfg.P g cs.toArray .returning w2 fun e u' w' => u' = .returning ∧ R e w')
                              (fun R R' hr hm => hr.mono fun e u' w' ⟨h1, h2⟩ => ⟨h1, hm e w' h2⟩) (fun args H K htr ρ F hd hs => hspec args H K htr ρ F w2 cs hd hs) q4 hcs2 q2.sat
                            refine hcall.mono ?_
                            rintro e u' w' ⟨rfl, v, x, ρ3, F3, H3, rfl, g1, g2, g3⟩
                            show Leaves cfg.P fn a2.tmps _ [] .returning w'
                            have hst3 : St cfg (cxOf fn args H0).nt [{ target := .fn (.func g) cs.toArray, args := #[] }] ρ3 F3 env2 H3 a2 w' := ⟨fun t => (q2.env t).le g3.le, q2.size, q2.defers, g3.sat⟩
                            refine fin0 ρ3 F3 env2 H3 a2 w' _ ⟨hst3, ((hs.fr.trans h3.fr).trans q3.fr).trans g3.fr, fun i hi => ?_⟩ g1
                            have hpi := hs.pins i hi
                            have hil : i < ρ0.length := by omega
                            rw [List.getElem?_eq_getElem hil] at hpi ⊢
                            exact g3.le _ _ (q3.le _ _ (h3.le _ _ hpi))
                        rcases q1 with rfl | rfl
                        · exact hend
                        · exact hend
                      · cases hfd
                    · exact h1.elim
                  · exact h1.elim
                · exact h.elim
              · exact h.elim
            · exact h.elim
          · exact h.elim
      | _ => cases hd
  | _ => intro env H ρ F a w h hs; exact h.elim

theorem spec_of_exFD (ok : CfgOK cfg) (hsig : ∀ g s, cfg.sigs g = some s → SpecOK cfg.P cfg.elT g s) {sd : FuncId → Option Spec} (hsd : ∀ g s, sd g = some s → SpecDOK cfg.P cfg.elT g s)
    {g : FuncId} {fn : Func} {s : Spec} (hg : cfg.P.funcs[g]? = some fn) (hname : (fn.name == "runtime.NumGoroutine") = false) (hb : fn.body.isNone = false)
    (h : ∀ (args : List V) (H : Heap) (K : V → Heap → Prop), s.tr args H K → exFD cfg sd fn args H K) : SpecOK cfg.P cfg.elT g s := by
  refine ⟨⟨fn, hg, hname, hb⟩, fun args H K htr ρ F w vals hden hsat => ?_⟩
  have hex := h args H K htr
  cases hc : fn.body with
  | none => rw [hc] at hb; cases hb
  | some c =>
    unfold exFD at hex
    rw [hc] at hex
    have hlen := denL_len hden
    have hst : St cfg (cxOf fn args H).nt [] ρ F (argEnv args) H { tmps := vals.toArray ++ Array.replicate (fn.ntmps - vals.toArray.size) undef, defers := [] } w :=
      ⟨argEnv_rel hden _, by simp [cxOf, hlen], rfl, hsat⟩
    exact calls_of_wp_defers hg hc (exS_sound ok hsig hsd hsat c _ H ρ F _ w hex ⟨hst, Fr.refl, fun _ _ => rfl⟩)
end Go.Rx
end

section
/- Views: the sorted map's functions. -/
namespace Go.Rx
open Go.Proofs

/-- How many keys, from the first one on, are less. -/
def lowI : List (List Int) → Int → Nat
  | [], _ => 0
  | e :: r, k => if keyOf e < k then lowI r k + 1 else 0
def sortedI (its : List (List Int)) : Bool := decide (its.Pairwise (fun x y => keyOf x < keyOf y))
def hasI (its : List (List Int)) (k : Int) : Bool := (lookI its k).isSome
def putI (its : List (List Int)) (k x : Int) : List (List Int) :=
  if hasI its k then its.set (lowI its k) [k, x] else its.take (lowI its k) ++ [k, x] :: its.drop (lowI its k)

def placeS : Spec := ⟨fun args H K => match args, H with
  | [.ptr 0 0, .ext (.int .i64 k)], [.cells T [.row 1], .row 5 its true] => Req (sortedI its && Nat.ble its.length 1048577) (K (.tup [vi (lowI its k), vb (hasI its k)]) [.cells T [.row 1], .row 5 its true])
  | _, _ => False, true⟩
def getS : Spec := ⟨fun args H K => match args, H with
  | [.ptr 0 0, .ext (.int .i64 k)], [.cells T [.row 1], .row 5 its true] => Req (sortedI its && Nat.ble its.length 1048577) (K (.tup [vi ((lookI its k).getD 0), vb (hasI its k)]) [.cells T [.row 1], .row 5 its true])
  | _, _ => False, true⟩
def putS : Spec := ⟨fun args H K => match args, H with
  | [.ptr 0 0, .ext (.int .i64 k), .ext (.int .i64 x)], [.cells T [.row 1], .row 5 its false] => Req (sortedI its && Nat.ble (putI its k x).length 1048576)
    (br (hasI its k) (K (vb false) [.cells T [.row 1], .row 5 (putI its k x) false]) (K (vb true) [.cells T [.row 2], .dead, .row 5 (putI its k x) false]))
  | _, _ => False, false⟩
def lenS : Spec := ⟨fun args H K => match args, H with
  | [.ptr 0 0], [.cells T [.row 1], .row 5 its true] => K (vi (its.length : Int)) [.cells T [.row 1], .row 5 its true]
  | _, _ => False, true⟩
def newS : Spec := ⟨fun args H K => match args, H with
  | [], [] => K (.ptr 0 0) [.cells 109 [.ext (.slice none 0 0)]]
  | _, _ => False, false⟩
noncomputable def cfg117 : Cfg := { cfgB with
  keep := fun r => match r with | 2 => some [(0, none), (1, none), (6, none), (7, none)] | _ => none
  keepB := fun b => match b with | 0 => some [(0, none), (1, none), (6, none), (7, none)] | _ => none
  plan := fun r => match r with
    | 1 => some (List.range 7, 0)
    | 7 => some (List.range 22, 0)
    | _ => none }
def sigGet : FuncId → Option Spec := fun f => match f with
  | 117 => some placeS
  | _ => none
noncomputable def cfg116 : Cfg := { cfgB with sigs := sigGet }
noncomputable def cfg115 : Cfg := { cfgB with sigs := sigGet, plan := fun r => match r with | 8 => some (List.range 14, 1) | _ => none }
end Go.Rx
end

section
/- Normal forms of the program's code (by a program of this session's; the kernel checks each). -/
namespace Go.Rx
open Go.Proofs
set_option maxRecDepth 100000
theorem nf117 (its : List (List Int)) (k : Int) (T : TypeId) (K : V → Heap → Prop) : (exF cfg117 Try.f117 [.ptr 0 0, vi k] [.cells T [.row 1], .row 5 its true] K) = (
    Loop cfg117 (⟨56, 2⟩ : Cx) (at_ (bodyOf Try.f117) [1, 1, 0, 0, 0])  (mkEnv [(0, .ptr 0 0), (1, vi (k)), (6, vi (0)), (7, vi ((↑(List.length its) : Int)))]) [.cells T [.row 1], .row 5 (its : List (List Int)) Bool.true] (contK cfg117 (⟨56, 2⟩ : Cx) (bodyOf Try.f117) [1, 1, 0, 0] (retK cfg117 Try.f117 2 K))) := by
  kernel_rfl

theorem nf117r (its : List (List Int)) (k : Int) (T : TypeId) (lo hi : Int) (K : V → Heap → Prop) (J : Env → Heap → Prop) : (ex cfg117 (⟨56, 2⟩ : Cx) (at_ (bodyOf Try.f117) [1, 1, 0, 0, 0]) (mkEnv [(0, .ptr 0 0), (1, vi k), (6, vi lo), (7, vi hi)]) [.cells T [.row 1], .row 5 its true] (roundK cfg117 (⟨56, 2⟩ : Cx) (at_ (bodyOf Try.f117) [1, 1, 0, 0, 0]) (contK cfg117 (⟨56, 2⟩ : Cx) (bodyOf Try.f117) [1, 1, 0, 0] (retK cfg117 Try.f117 2 K)) J)) = (
    br (Decidable.decide (lo < hi))
      (
      Req (Go.Rx.inR (Go.IntKind.wrap Go.IntKind.i64 (lo + Go.IntKind.wrap Go.IntKind.i64 (Int.tdiv (Go.IntKind.wrap Go.IntKind.i64 (hi - lo)) 2))) (List.length its))
        (
        Req (Go.Rx.inR (Go.Rx.offs (Go.IntKind.wrap Go.IntKind.i64 (lo + Go.IntKind.wrap Go.IntKind.i64 (Int.tdiv (Go.IntKind.wrap Go.IntKind.i64 (hi - lo)) 2))) 0) (List.length its))
          (
          br (Decidable.decide (List.getD (List.getD its (Int.toNat (Go.Rx.offs (Go.IntKind.wrap Go.IntKind.i64 (lo + Go.IntKind.wrap Go.IntKind.i64 (Int.tdiv (Go.IntKind.wrap Go.IntKind.i64 (hi - lo)) (2 : Int)))) (0 : Nat))) (List.replicate (2 : Nat) (0 : Int))) (0 : Nat) (0 : Int) < k))
            (
            J (mkEnv [(0, .ptr 0 0), (1, vi (k)), (6, vi (Go.IntKind.wrap Go.IntKind.i64 (Go.IntKind.wrap Go.IntKind.i64 (lo + Go.IntKind.wrap Go.IntKind.i64 (Int.tdiv (Go.IntKind.wrap Go.IntKind.i64 (hi - lo)) 2)) + 1))), (7, vi (hi))]) [.cells T [.row 1], .row 5 (its : List (List Int)) Bool.true])
            (
            J (mkEnv [(0, .ptr 0 0), (1, vi (k)), (6, vi (lo)), (7, vi (Go.IntKind.wrap Go.IntKind.i64 (lo + Go.IntKind.wrap Go.IntKind.i64 (Int.tdiv (Go.IntKind.wrap Go.IntKind.i64 (hi - lo)) 2))))]) [.cells T [.row 1], .row 5 (its : List (List Int)) Bool.true]))))
      (
      br (Decidable.decide (lo < (↑(List.length its) : Int)))
        (
        Req (Go.Rx.inR lo (List.length its))
          (
          Req (Go.Rx.inR (Go.Rx.offs lo 0) (List.length its))
            (
            K (.tup [vi (lo), vb (List.getD (List.getD its (Int.toNat (Go.Rx.offs lo (0 : Nat))) (List.replicate (2 : Nat) (0 : Int))) (0 : Nat) (0 : Int) == k)]) [.cells T [.row 1], .row 5 (its : List (List Int)) Bool.true])))
        (
        K (.tup [vi (lo), vb (Bool.false)]) [.cells T [.row 1], .row 5 (its : List (List Int)) Bool.true]))) := by
  kernel_rfl

theorem nf116 (its : List (List Int)) (k : Int) (T : TypeId) (K : V → Heap → Prop) : (exF cfg116 Try.f116 [.ptr 0 0, vi k] [.cells T [.row 1], .row 5 its true] K) = (
    Req (Go.Rx.sortedI its && Nat.ble (List.length its) 1048577)
      (
      br (!Go.Rx.hasI its k)
        (
        K (.tup [vi (0), vb (Bool.false)]) [.cells T [.row 1], .row 5 (its : List (List Int)) Bool.true])
        (
        Req (Go.Rx.inR (↑(Go.Rx.lowI its k) : Int) (List.length its))
          (
          Req (Go.Rx.inR (Go.Rx.offs (↑(Go.Rx.lowI its k) : Int) 0) (List.length its))
            (
            K (.tup [vi (List.getD (List.getD its (Int.toNat (Go.Rx.offs (↑(Go.Rx.lowI its k) : Int) (0 : Nat))) (List.replicate (2 : Nat) (0 : Int))) (1 : Nat) (0 : Int)), vb (Bool.true)]) [.cells T [.row 1], .row 5 (its : List (List Int)) Bool.true]))))) := by
  kernel_rfl

theorem nf115 (its : List (List Int)) (k : Int) (T : TypeId) (x : Int) (K : V → Heap → Prop) : (exF cfg115 Try.f115 [.ptr 0 0, vi k, vi x] [.cells T [.row 1], .row 5 its false] K) = (
    Req (Go.Rx.sortedI its && Nat.ble (List.length its) 1048577)
      (
      br (Go.Rx.hasI its k)
        (
        Req (Go.Rx.inR (↑(Go.Rx.lowI its k) : Int) (List.length its))
          (
          Req (Go.Rx.inR (Go.Rx.offs (↑(Go.Rx.lowI its k) : Int) 0) (List.length its))
            (
            K (vb (Bool.false)) [.cells T [.row 1], .row 5 (List.set its (Int.toNat (Go.Rx.offs (↑(Go.Rx.lowI its k) : Int) (0 : Nat))) [List.getD (List.getD its (Int.toNat (Go.Rx.offs (↑(Go.Rx.lowI its k) : Int) (0 : Nat))) (List.replicate (2 : Nat) (0 : Int))) (0 : Nat) (0 : Int), x] : List (List Int)) Bool.false])))
        (
        Req (Decidable.decide (List.length its + 1 ≤ 1048576))
          (
          Req (Decidable.decide (0 ≤ Go.IntKind.wrap Go.IntKind.i64 ((↑(Go.Rx.lowI its k) : Int) + 1) ∧ Go.IntKind.wrap Go.IntKind.i64 ((↑(Go.Rx.lowI its k) : Int) + 1) ≤ (↑(List.length (its ++ [[0, 0]])) : Int)))
            (
            Req (Decidable.decide (0 ≤ (↑(Go.Rx.lowI its k) : Int) ∧ (↑(Go.Rx.lowI its k) : Int) ≤ (↑(List.length (its ++ [[0, 0]])) : Int)))
              (
              Req (Decidable.decide (Int.toNat (↑(Go.Rx.lowI its k) : Int) + (List.length (its ++ [[0, 0]]) - Int.toNat (↑(Go.Rx.lowI its k) : Int)) ≤ List.length (its ++ [[0, 0]])))
                (
                Req (Decidable.decide (Int.toNat (Go.IntKind.wrap Go.IntKind.i64 ((↑(Go.Rx.lowI its k) : Int) + 1)) + (List.length (its ++ [[0, 0]]) - Int.toNat (Go.IntKind.wrap Go.IntKind.i64 ((↑(Go.Rx.lowI its k) : Int) + 1))) ≤ List.length (its ++ [[0, 0]])))
                  (
                  Req (Go.Rx.inR (↑(Go.Rx.lowI its k) : Int) (List.length (List.take (Int.toNat (Go.IntKind.wrap Go.IntKind.i64 ((↑(Go.Rx.lowI its k) : Int) + 1))) (its ++ [[0, 0]]) ++ (List.take (Min.min (List.length (its ++ [[0, 0]]) - Int.toNat (Go.IntKind.wrap Go.IntKind.i64 ((↑(Go.Rx.lowI its k) : Int) + 1))) (List.length (List.take (List.length (its ++ [[0, 0]]) - Int.toNat (↑(Go.Rx.lowI its k) : Int)) (List.drop (Int.toNat (↑(Go.Rx.lowI its k) : Int)) (its ++ [[0, 0]]))))) (List.take (List.length (its ++ [[0, 0]]) - Int.toNat (↑(Go.Rx.lowI its k) : Int)) (List.drop (Int.toNat (↑(Go.Rx.lowI its k) : Int)) (its ++ [[0, 0]]))) ++ List.drop (Int.toNat (Go.IntKind.wrap Go.IntKind.i64 ((↑(Go.Rx.lowI its k) : Int) + 1)) + Min.min (List.length (its ++ [[0, 0]]) - Int.toNat (Go.IntKind.wrap Go.IntKind.i64 ((↑(Go.Rx.lowI its k) : Int) + 1))) (List.length (List.take (List.length (its ++ [[0, 0]]) - Int.toNat (↑(Go.Rx.lowI its k) : Int)) (List.drop (Int.toNat (↑(Go.Rx.lowI its k) : Int)) (its ++ [[0, 0]]))))) (its ++ [[0, 0]])))))
                    (
                    Req (Go.Rx.inR (Go.Rx.offs (↑(Go.Rx.lowI its k) : Int) 0) (List.length (List.take (Int.toNat (Go.IntKind.wrap Go.IntKind.i64 ((↑(Go.Rx.lowI its k) : Int) + 1))) (its ++ [[0, 0]]) ++ (List.take (Min.min (List.length (its ++ [[0, 0]]) - Int.toNat (Go.IntKind.wrap Go.IntKind.i64 ((↑(Go.Rx.lowI its k) : Int) + 1))) (List.length (List.take (List.length (its ++ [[0, 0]]) - Int.toNat (↑(Go.Rx.lowI its k) : Int)) (List.drop (Int.toNat (↑(Go.Rx.lowI its k) : Int)) (its ++ [[0, 0]]))))) (List.take (List.length (its ++ [[0, 0]]) - Int.toNat (↑(Go.Rx.lowI its k) : Int)) (List.drop (Int.toNat (↑(Go.Rx.lowI its k) : Int)) (its ++ [[0, 0]]))) ++ List.drop (Int.toNat (Go.IntKind.wrap Go.IntKind.i64 ((↑(Go.Rx.lowI its k) : Int) + 1)) + Min.min (List.length (its ++ [[0, 0]]) - Int.toNat (Go.IntKind.wrap Go.IntKind.i64 ((↑(Go.Rx.lowI its k) : Int) + 1))) (List.length (List.take (List.length (its ++ [[0, 0]]) - Int.toNat (↑(Go.Rx.lowI its k) : Int)) (List.drop (Int.toNat (↑(Go.Rx.lowI its k) : Int)) (its ++ [[0, 0]]))))) (its ++ [[0, 0]])))))
                      (
                      K (vb (Bool.true)) [.cells T [.row 2], .dead, .row 5 (List.set (List.take (Int.toNat (Go.IntKind.wrap Go.IntKind.i64 ((↑(Go.Rx.lowI its k) : Int) + 1))) (its ++ [[0, 0]]) ++ (List.take (Min.min (List.length (its ++ [[0, 0]]) - Int.toNat (Go.IntKind.wrap Go.IntKind.i64 ((↑(Go.Rx.lowI its k) : Int) + 1))) (List.length (List.take (List.length (its ++ [[0, 0]]) - Int.toNat (↑(Go.Rx.lowI its k) : Int)) (List.drop (Int.toNat (↑(Go.Rx.lowI its k) : Int)) (its ++ [[0, 0]]))))) (List.take (List.length (its ++ [[0, 0]]) - Int.toNat (↑(Go.Rx.lowI its k) : Int)) (List.drop (Int.toNat (↑(Go.Rx.lowI its k) : Int)) (its ++ [[0, 0]]))) ++ List.drop (Int.toNat (Go.IntKind.wrap Go.IntKind.i64 ((↑(Go.Rx.lowI its k) : Int) + 1)) + Min.min (List.length (its ++ [[0, 0]]) - Int.toNat (Go.IntKind.wrap Go.IntKind.i64 ((↑(Go.Rx.lowI its k) : Int) + 1))) (List.length (List.take (List.length (its ++ [[0, 0]]) - Int.toNat (↑(Go.Rx.lowI its k) : Int)) (List.drop (Int.toNat (↑(Go.Rx.lowI its k) : Int)) (its ++ [[0, 0]]))))) (its ++ [[0, 0]]))) (Int.toNat (Go.Rx.offs (↑(Go.Rx.lowI its k) : Int) 0)) [k, x] : List (List Int)) Bool.false])))))))))) := by
  kernel_rfl

theorem nf113 (its : List (List Int)) (T : TypeId) (K : V → Heap → Prop) : (exF cfg115 Try.f113 [.ptr 0 0] [.cells T [.row 1], .row 5 its true] K) = (
    K (vi ((↑(List.length its) : Int))) [.cells T [.row 1], .row 5 (its : List (List Int)) Bool.true]) := by
  kernel_rfl

theorem nf103  (K : V → Heap → Prop) : (exF cfg115 Try.f103 [] [] K) = (
    K (.ptr 0 0) [.cells 109 [.ext (Go.Value.slice Option.none 0 0)]]) := by
  kernel_rfl

end Go.Rx
end

section
/- Sorted maps: place, Get, Put, Len, New. -/
namespace Go.Rx
open Go.Proofs
attribute [local irreducible] Loop ex exF contK roundK retK at_ bodyOf mkEnv mkA

theorem Req_true {A : Prop} : Req true A = A := rfl
theorem offs_nat (i : Nat) : offs (i : Int) 0 = (i : Int) := rfl

def kA (its : List (List Int)) (j : Nat) : Int := (its.getD j (List.replicate 2 0)).getD 0 0

theorem kA_of {its : List (List Int)} {j : Nat} {e : List Int} (h : its[j]? = some e) : kA its j = keyOf e := by
  unfold kA keyOf; simp [h]

theorem lowI_le (k : Int) : ∀ its : List (List Int), lowI its k ≤ its.length
  | [] => Nat.le_refl _
  | e :: r => by
    simp only [lowI]
    split
    · have := lowI_le k r; simp; omega
    · simp

theorem lowI_at {k : Int} : ∀ {its : List (List Int)} {n : Nat}, n ≤ its.length → (∀ j, j < n → kA its j < k) → (n < its.length → k ≤ kA its n) → lowI its k = n
  | [], n, h, _, _ => by simp at h; subst h; rfl
  | e :: r, 0, _, _, h2 => by
    have : k ≤ keyOf e := h2 (by simp)
    simp only [lowI]
    rw [if_neg (by omega)]
  | e :: r, n + 1, h, h1, h2 => by
    have h0 : keyOf e < k := h1 0 (by omega)
    simp only [lowI]
    rw [if_pos h0, lowI_at (its := r) (n := n) (by simpa using h) (fun j hj => h1 (j + 1) (by omega)) (fun hn => h2 (by simpa using hn))]

theorem lowI_less {k : Int} : ∀ {its : List (List Int)} {j : Nat}, j < lowI its k → kA its j < k
  | [], j, h => by simp [lowI] at h
  | e :: r, j, h => by
    simp only [lowI] at h
    split at h
    · rename_i he
      match j with
      | 0 => exact he
      | j + 1 => exact lowI_less (its := r) (by omega)
    · omega

theorem lowI_not {k : Int} : ∀ {its : List (List Int)}, lowI its k < its.length → k ≤ kA its (lowI its k)
  | [], h => by simp at h
  | e :: r, h => by
    simp only [lowI] at h ⊢
    split
    · rename_i he
      rw [if_pos he] at h
      exact lowI_not (its := r) (by simpa using h)
    · rename_i he
      show k ≤ keyOf e
      omega

theorem sortedI_of {its : List (List Int)} (h : sortedI its = true) : its.Pairwise (fun x y => keyOf x < keyOf y) := of_decide_eq_true h

theorem sorted_mono {its : List (List Int)} (h : its.Pairwise (fun x y => keyOf x < keyOf y)) {i j : Nat} (hij : i < j) (hj : j < its.length) : kA its i < kA its j := by
  have hi : i < its.length := by omega
  rw [kA_of (List.getElem?_eq_getElem hi), kA_of (List.getElem?_eq_getElem hj)]
  exact List.pairwise_iff_getElem.1 h i j hi hj hij

theorem lookI_mem {k : Int} : ∀ {its : List (List Int)} {v : Int}, lookI its k = some v → ∃ e ∈ its, keyOf e = k ∧ valOf e = v
  | [], v, h => by cases h
  | e :: r, v, h => by
    simp only [lookI] at h
    split at h
    · rename_i he; injection h with h; exact ⟨e, by simp, he, h⟩
    · obtain ⟨e', h1, h2⟩ := lookI_mem h; exact ⟨e', by simp [h1], h2⟩

theorem lookI_none {k : Int} : ∀ {its : List (List Int)}, (∀ e ∈ its, keyOf e ≠ k) → lookI its k = none
  | [], _ => rfl
  | e :: r, h => by
    simp only [lookI]
    rw [if_neg (h e (by simp))]
    exact lookI_none (fun e' he => h e' (by simp [he]))

theorem lookI_append {k : Int} : ∀ (a b : List (List Int)), lookI (a ++ b) k = (lookI a k).or (lookI b k)
  | [], b => by simp [lookI]
  | e :: r, b => by
    simp only [List.cons_append, lookI]
    split
    · rfl
    · exact lookI_append r b

/-- The parts of a list around a key. -/
theorem its_parts {its : List (List Int)} (h : its.Pairwise (fun x y => keyOf x < keyOf y)) (k : Int) :
    (∀ e ∈ its.take (lowI its k), keyOf e < k) ∧ ((∃ e r, its.drop (lowI its k) = e :: r ∧ keyOf e = k ∧ ∀ y ∈ r, k < keyOf y) ∨ (∀ y ∈ its.drop (lowI its k), k < keyOf y)) := by
  induction its with
  | nil => simp
  | cons e r ih =>
    rw [List.pairwise_cons] at h
    obtain ⟨h1, h2⟩ := h
    simp only [lowI]
    split
    · rename_i he
      obtain ⟨i1, i2⟩ := ih h2
      refine ⟨fun y hy => ?_, i2⟩
      rw [List.take_succ_cons] at hy
      rcases List.mem_cons.1 hy with rfl | hy
      · exact he
      · exact i1 y hy
    · rename_i he
      refine ⟨by simp, ?_⟩
      rw [List.drop_zero]
      by_cases hk : keyOf e = k
      · exact .inl ⟨e, r, rfl, hk, fun y hy => by have := h1 y hy; omega⟩
      · refine .inr (fun y hy => ?_)
        rcases List.mem_cons.1 hy with rfl | hy
        · omega
        · have := h1 y hy; omega

theorem look_parts {its : List (List Int)} (h : its.Pairwise (fun x y => keyOf x < keyOf y)) (k : Int) :
    lookI its k = if lowI its k < its.length ∧ kA its (lowI its k) = k then some ((its.getD (lowI its k) (List.replicate 2 0)).getD 1 0) else none := by
  obtain ⟨h1, h2⟩ := its_parts h k
  have e : lookI its k = (lookI (its.take (lowI its k)) k).or (lookI (its.drop (lowI its k)) k) := by rw [← lookI_append, List.take_append_drop]
  rw [e, lookI_none (fun y hy => by have := h1 y hy; omega), Option.none_or]
  rcases h2 with ⟨e, r, q1, q2, q3⟩ | q
  · have hlt : lowI its k < its.length := by
      have : (its.drop (lowI its k)).length = r.length + 1 := by rw [q1]; rfl
      rw [List.length_drop] at this; omega
    have hg : its[lowI its k]? = some e := by
      have : (its.drop (lowI its k))[0]? = some e := by rw [q1]; rfl
      rw [List.getElem?_drop] at this
      simpa using this
    rw [if_pos ⟨hlt, by rw [kA_of hg]; exact q2⟩, q1]
    simp only [lookI, if_pos q2]
    simp [hg, valOf]
  · rw [lookI_none (fun y hy => by have := q y hy; omega)]
    rw [if_neg]
    rintro ⟨hl, hk⟩
    have := q (its[lowI its k]) (List.mem_drop_iff_getElem.2 ⟨0, by simpa using hl, by simp⟩)
    rw [kA_of (List.getElem?_eq_getElem hl)] at hk
    omega

theorem hasI_iff {its : List (List Int)} (h : its.Pairwise (fun x y => keyOf x < keyOf y)) (k : Int) : hasI its k = (decide (lowI its k < its.length) && (kA its (lowI its k) == k)) := by
  unfold hasI
  rw [look_parts h k]
  split
  · rename_i hc; simp [hc.1, hc.2]
  · rename_i hc
    cases h1 : decide (lowI its k < its.length) with
    | false => simp
    | true =>
      have h1 := of_decide_eq_true h1
      have : ¬ kA its (lowI its k) = k := fun h2 => hc ⟨h1, h2⟩
      simp [this]

theorem hasI_split {its : List (List Int)} (h : its.Pairwise (fun x y => keyOf x < keyOf y)) {k : Int} (hk : hasI its k = true) : lowI its k < its.length ∧ kA its (lowI its k) = k ∧ lookI its k = some ((its.getD (lowI its k) (List.replicate 2 0)).getD 1 0) := by
  have hb := hk
  rw [hasI_iff h] at hb
  simp at hb
  refine ⟨hb.1, hb.2, ?_⟩
  rw [look_parts h, if_pos hb]

theorem putI_sorted {its : List (List Int)} (h : its.Pairwise (fun x y => keyOf x < keyOf y)) (k x : Int) : (putI its k x).Pairwise (fun x y => keyOf x < keyOf y) ∧
    (∀ a, lookI (putI its k x) a = if a = k then some x else lookI its a) ∧ (∀ e ∈ putI its k x, e ∈ its ∨ keyOf e = k) := by
  obtain ⟨h1, h2⟩ := its_parts h k
  have hsp : its.take (lowI its k) ++ its.drop (lowI its k) = its := List.take_append_drop _ _
  have hlow := lowI_le k its
  have key : ∀ R : List (List Int), (∀ y ∈ R, k < keyOf y) → (∀ y ∈ R, y ∈ its) → R.Pairwise (fun x y => keyOf x < keyOf y) → (∀ a, a ≠ k → lookI its a = lookI (its.take (lowI its k) ++ R) a) → putI its k x = its.take (lowI its k) ++ [k, x] :: R →
      (putI its k x).Pairwise (fun x y => keyOf x < keyOf y) ∧ (∀ a, lookI (putI its k x) a = if a = k then some x else lookI its a) ∧ (∀ e ∈ putI its k x, e ∈ its ∨ keyOf e = k) := by
    intro R r1 r2 r3 r4 r5
    rw [r5]
    refine ⟨?_, fun a => ?_, fun e he => ?_⟩
    · rw [List.pairwise_append]
      refine ⟨h.sublist (List.take_sublist _ _), ?_, fun a ha b hb => ?_⟩
      · rw [List.pairwise_cons]; exact ⟨fun y hy => r1 y hy, r3⟩
      · have := h1 a ha
        rcases List.mem_cons.1 hb with rfl | hb
        · exact this
        · have := r1 b hb; omega
    · rw [lookI_append]
      by_cases e : a = k
      · subst e
        rw [if_pos rfl, lookI_none (fun y hy => by have := h1 y hy; omega)]
        simp [lookI, keyOf, valOf]
      · rw [if_neg e, r4 a e, lookI_append]
        congr 1
        simp only [lookI]
        rw [if_neg (by show ¬ k = a; exact fun h => e h.symm)]
    · rcases List.mem_append.1 he with he | he
      · exact .inl (List.mem_of_mem_take he)
      · rcases List.mem_cons.1 he with rfl | he
        · exact .inr rfl
        · exact .inl (r2 e he)
  have hdrop : ∀ y ∈ its.drop (lowI its k), y ∈ its := fun y hy => List.mem_of_mem_drop hy
  have hps : (its.drop (lowI its k)).Pairwise (fun x y => keyOf x < keyOf y) := h.sublist (List.drop_sublist _ _)
  rcases h2 with ⟨e, r, q1, q2, q3⟩ | q
  · have hl : lowI its k < its.length := by
      have : (its.drop (lowI its k)).length = r.length + 1 := by rw [q1]; rfl
      rw [List.length_drop] at this; omega
    have hg : its[lowI its k]? = some e := by
      have : (its.drop (lowI its k))[0]? = some e := by rw [q1]; rfl
      rw [List.getElem?_drop] at this
      simpa using this
    have hh : hasI its k = true := by
      rw [hasI_iff h]; simp [hl, kA_of hg, q2]
    refine key r q3 (fun y hy => hdrop y (by rw [q1]; simp [hy])) (by rw [q1] at hps; exact (List.pairwise_cons.1 hps).2) (fun a ha => ?_) ?_
    · conv => lhs; rw [← hsp, q1]
      rw [lookI_append, lookI_append]
      congr 1
      simp only [lookI]
      rw [if_neg (by omega)]
    · unfold putI
      rw [if_pos hh]
      have : its = its.take (lowI its k) ++ e :: r := by rw [← q1]; exact hsp.symm
      generalize hp : lowI its k = p at *
      have hlen : (its.take p).length = p := by rw [List.length_take]; omega
      conv => lhs; rw [this]
      rw [List.set_append_right _ _ (by omega), hlen, Nat.sub_self]
      rfl
  · have hh : ¬ hasI its k = true := by
      intro hb
      obtain ⟨b1, b2, _⟩ := hasI_split h hb
      rw [kA_of (List.getElem?_eq_getElem b1)] at b2
      have := q _ (List.mem_drop_iff_getElem.2 ⟨0, by simpa using b1, by simp; rfl⟩)
      omega
    refine key (its.drop (lowI its k)) q hdrop hps (fun a _ => by rw [hsp]) ?_
    unfold putI
    rw [if_neg hh]

theorem put_list {its : List (List Int)} {p : Nat} (hp : p ≤ its.length) (z e : List Int) :
    (List.take (p + 1) (its ++ [z]) ++ (List.take (Min.min ((its ++ [z]).length - (p + 1)) (List.take ((its ++ [z]).length - p) (List.drop p (its ++ [z]))).length) (List.take ((its ++ [z]).length - p) (List.drop p (its ++ [z]))) ++
      List.drop (p + 1 + Min.min ((its ++ [z]).length - (p + 1)) (List.take ((its ++ [z]).length - p) (List.drop p (its ++ [z]))).length) (its ++ [z]))).set p e = its.take p ++ e :: its.drop p := by
  have hM : (its ++ [z]).length = its.length + 1 := by simp
  rw [hM]
  have hd : List.drop p (its ++ [z]) = its.drop p ++ [z] := List.drop_append_of_le_length hp
  rw [hd]
  have hdl : (its.drop p ++ [z]).length = its.length + 1 - p := by simp; omega
  have ht : List.take (its.length + 1 - p) (its.drop p ++ [z]) = its.drop p ++ [z] := List.take_of_length_le (by omega)
  rw [ht, hdl]
  have hmin : Min.min (its.length + 1 - (p + 1)) (its.length + 1 - p) = its.length - p := by omega
  rw [hmin]
  have h3 : List.take (its.length - p) (its.drop p ++ [z]) = its.drop p := List.take_left' (by simp)
  have h4 : List.drop (p + 1 + (its.length - p)) (its ++ [z]) = [] := List.drop_of_length_le (by rw [hM]; omega)
  rw [h3, h4, List.append_nil]
  have h5 : List.take (p + 1) (its ++ [z]) = its.take p ++ [(its ++ [z])[p]'(by rw [hM]; omega)] := by
    rw [List.take_succ_eq_append_getElem (by rw [hM]; omega)]
    rw [List.take_append_of_le_length hp]
  rw [h5]
  have hlen : (its.take p).length = p := by rw [List.length_take]; omega
  rw [List.append_assoc, List.set_append_right _ _ (by omega), hlen, Nat.sub_self]
  rfl

theorem sigGet0_ok {sg : FuncId → Option Spec} (h : SpecOK Try.prog elTT 117 placeS) (hs : sg = sigGet) : ∀ g s, sg g = some s → SpecOK Try.prog elTT g s := by
  intro g s hg
  subst hs
  unfold sigGet at hg
  split at hg
  · injection hg with hg; subst hg; exact h
  · cases hg

theorem placeS_elim {args : List V} {H : Heap} {K : V → Heap → Prop} (h : placeS.tr args H K) : ∃ (its : List (List Int)) (k : Int) (T : TypeId), args = [.ptr 0 0, vi k] ∧ H = [.cells T [.row 1], .row 5 its true] ∧ sortedI its = true ∧ its.length ≤ 1048577 ∧
    K (.tup [vi (lowI its k), vb (hasI its k)]) [.cells T [.row 1], .row 5 its true] := by
  unfold placeS at h
  simp only at h
  split at h
  · rename_i k T its
    have hr := Req_elim h
    have h1 := hr.1
    simp only [Bool.and_eq_true] at h1
    exact ⟨its, k, T, rfl, rfl, h1.1, Nat.le_of_ble_eq_true h1.2, hr.2⟩
  · exact h.elim

theorem place_ok : SpecOK Try.prog elTT 117 placeS := by
  refine spec_of_exF (cfg := cfg117) (cfg_ok rfl rfl rfl) (nosig rfl) (fn := Try.f117) (by kernel_rfl) (by kernel_rfl) (by kernel_rfl) ?_
  intro args H K h
  obtain ⟨its, k, T, rfl, rfl, hs, hl, hk⟩ := placeS_elim h
  have hp := sortedI_of hs
  refine Eq.mpr (nf117 its k T K) ?_
  refine loop_ind (σ := Nat × Nat) (fun s => mkEnv [(0, .ptr 0 0), (1, vi k), (6, vi (s.1 : Int)), (7, vi (s.2 : Int))]) (fun _ => [.cells T [.row 1], .row 5 its true])
    (fun s => s.1 ≤ s.2 ∧ s.2 ≤ its.length ∧ (∀ j, j < s.1 → kA its j < k) ∧ (s.2 < its.length → k ≤ kA its s.2)) (fun s => s.2 - s.1) ?_ (0, its.length) ⟨Nat.zero_le _, Nat.le_refl _, fun j hj => by omega, fun h => absurd h (Nat.lt_irrefl _)⟩
  rintro ⟨lo, hi⟩ ⟨i1, i2, i3, i4⟩ J hJ
  simp only at i1 i2 i3 i4 ⊢
  refine Eq.mpr (nf117r its k T lo hi K J) (br_intro (fun h1 => ?_) (fun h1 => ?_))
  · have h1 : lo < hi := by simpa using h1
    have e1 : Go.IntKind.i64.wrap ((hi : Int) - lo) = ((hi - lo : Nat) : Int) := by rw [wrap_id (by omega) (by omega)]; omega
    have e2 : Go.IntKind.i64.wrap (Int.tdiv ((hi - lo : Nat) : Int) 2) = (((hi - lo) / 2 : Nat) : Int) := by
      have : Int.tdiv ((hi - lo : Nat) : Int) 2 = (((hi - lo) / 2 : Nat) : Int) := rfl
      rw [this, wrap_id (by omega) (by omega)]
    have e3 : Go.IntKind.i64.wrap ((lo : Int) + (((hi - lo) / 2 : Nat) : Int)) = ((lo + (hi - lo) / 2 : Nat) : Int) := by rw [wrap_id (by omega) (by omega)]; omega
    rw [e1, e2, e3]
    have hm1 : lo ≤ lo + (hi - lo) / 2 := by omega
    have hm2 : lo + (hi - lo) / 2 < hi := by omega
    generalize lo + (hi - lo) / 2 = mid at hm1 hm2 ⊢
    simp only [offs_nat, inR_nat (show mid < its.length by omega), Req_true, Int.toNat_natCast, wrap_succ (show mid ≤ 4611686018427387904 by omega)]
    refine br_intro (fun h2 => ?_) (fun h2 => ?_)
    · have h2 : kA its mid < k := of_decide_eq_true h2
      refine hJ (mid + 1, hi) ⟨by simp only; omega, i2, fun j hj => ?_, i4⟩ (by simp only; omega)
      by_cases hjm : j = mid
      · subst hjm; exact h2
      · have := sorted_mono hp (i := j) (j := mid) (by simp only at hj; omega) (by omega)
        omega
    · have h2 : ¬ kA its mid < k := of_decide_eq_false h2
      exact hJ (lo, mid) ⟨hm1, by simp only; omega, i3, fun _ => by simp only; omega⟩ (by simp only; omega)
  · have h1 : lo = hi := by simp at h1; omega
    subst h1
    have hlow : lowI its k = lo := lowI_at i2 i3 i4
    have hh := hasI_iff hp k
    rw [hlow] at hk hh
    refine br_intro (fun h2 => ?_) (fun h2 => ?_)
    · have h2 : lo < its.length := by simpa using h2
      simp only [offs_nat, inR_nat h2, Req_true, Int.toNat_natCast]
      rw [hh] at hk
      simp only [h2, decide_true, Bool.true_and] at hk
      exact hk
    · have h2 : ¬ lo < its.length := by simpa using h2
      rw [hh] at hk
      simp only [h2, decide_false, Bool.false_and] at hk
      exact hk

theorem getS_elim {args : List V} {H : Heap} {K : V → Heap → Prop} (h : getS.tr args H K) : ∃ (its : List (List Int)) (k : Int) (T : TypeId), args = [.ptr 0 0, vi k] ∧ H = [.cells T [.row 1], .row 5 its true] ∧ sortedI its = true ∧ its.length ≤ 1048577 ∧
    K (.tup [vi ((lookI its k).getD 0), vb (hasI its k)]) [.cells T [.row 1], .row 5 its true] := by
  unfold getS at h
  simp only at h
  split at h
  · rename_i k T its
    have hr := Req_elim h
    have h1 := hr.1
    simp only [Bool.and_eq_true] at h1
    exact ⟨its, k, T, rfl, rfl, h1.1, Nat.le_of_ble_eq_true h1.2, hr.2⟩
  · exact h.elim

theorem get_ok : SpecOK Try.prog elTT 116 getS := by
  refine spec_of_exF (cfg := cfg116) (cfg_ok rfl rfl rfl) (sigGet0_ok place_ok rfl) (fn := Try.f116) (by kernel_rfl) (by kernel_rfl) (by kernel_rfl) ?_
  intro args H K h
  obtain ⟨its, k, T, rfl, rfl, hs, hl, hk⟩ := getS_elim h
  have hp := sortedI_of hs
  refine Eq.mpr (nf116 its k T K) (Req_intro (by simp [hs, hl]) (br_intro (fun h1 => ?_) (fun h1 => ?_)))
  · have h1 : hasI its k = false := by simpa using h1
    have : lookI its k = none := by unfold hasI at h1; simpa using h1
    rw [this, h1] at hk
    exact hk
  · have h1 : hasI its k = true := by simpa using h1
    obtain ⟨b1, b2, b3⟩ := hasI_split hp h1
    simp only [offs_nat, inR_nat b1, Req_true, Int.toNat_natCast]
    rw [b3, h1] at hk
    exact hk

theorem putS_elim {args : List V} {H : Heap} {K : V → Heap → Prop} (h : putS.tr args H K) : ∃ (its : List (List Int)) (k x : Int) (T : TypeId), args = [.ptr 0 0, vi k, vi x] ∧ H = [.cells T [.row 1], .row 5 its false] ∧ sortedI its = true ∧ (putI its k x).length ≤ 1048576 ∧
    br (hasI its k) (K (vb false) [.cells T [.row 1], .row 5 (putI its k x) false]) (K (vb true) [.cells T [.row 2], .dead, .row 5 (putI its k x) false]) := by
  unfold putS at h
  simp only at h
  split at h
  · rename_i k x T its
    have hr := Req_elim h
    have h1 := hr.1
    simp only [Bool.and_eq_true] at h1
    exact ⟨its, k, x, T, rfl, rfl, h1.1, Nat.le_of_ble_eq_true h1.2, hr.2⟩
  · exact h.elim

theorem put_ok : SpecOK Try.prog elTT 115 putS := by
  refine spec_of_exF (cfg := cfg115) (cfg_ok rfl rfl rfl) (sigGet0_ok place_ok rfl) (fn := Try.f115) (by kernel_rfl) (by kernel_rfl) (by kernel_rfl) ?_
  intro args H K h
  obtain ⟨its, k, x, T, rfl, rfl, hs, hl, hk⟩ := putS_elim h
  have hp := sortedI_of hs
  have hlow := lowI_le k its
  have hle : its.length ≤ (putI its k x).length := by
    unfold putI; split
    · simp
    · simp; omega
  refine Eq.mpr (nf115 its k T x K) (Req_intro (by simp [hs]; omega) (br_intro (fun h1 => ?_) (fun h1 => ?_)))
  · obtain ⟨b1, b2, b3⟩ := hasI_split hp h1
    simp only [offs_nat, inR_nat b1, Req_true, Int.toNat_natCast]
    rw [h1] at hk
    have hk : K (vb false) [.cells T [.row 1], .row 5 (putI its k x) false] := hk
    have e : putI its k x = its.set (lowI its k) [kA its (lowI its k), x] := by unfold putI; rw [if_pos h1, b2]
    rw [e] at hk
    exact hk
  · rw [h1] at hk
    have hk : K (vb true) [.cells T [.row 2], .dead, .row 5 (putI its k x) false] := hk
    have e : putI its k x = its.take (lowI its k) ++ [k, x] :: its.drop (lowI its k) := by unfold putI; rw [if_neg (by rw [h1]; simp)]
    have hl' : its.length + 1 ≤ 1048576 := by
      rw [e] at hl; simp at hl; omega
    rw [e] at hk
    have hw : Go.IntKind.i64.wrap ((lowI its k : Int) + 1) = ((lowI its k + 1 : Nat) : Int) := wrap_succ (by omega)
    rw [hw]
    simp only [offs_nat, Int.toNat_natCast]
    have hpl := put_list hlow [0, 0] [k, x]
    have hll := congrArg List.length hpl
    simp only [List.length_set] at hll
    have hlen2 : (its.take (lowI its k) ++ [k, x] :: its.drop (lowI its k)).length = its.length + 1 := by simp; omega
    rw [hlen2] at hll
    refine Req_intro (by simpa using hl') (Req_intro (decide_eq_true ?_) (Req_intro (decide_eq_true ?_) (Req_intro (decide_eq_true ?_) (Req_intro (decide_eq_true ?_) (Req_intro (inR_nat ?_) (Req_intro (inR_nat ?_) ?_))))))
    · simp; omega
    · simp; omega
    · simp; omega
    · simp; omega
    · rw [hll]; omega
    · rw [hll]; omega
    · rw [hpl]; exact hk

theorem len_ok : SpecOK Try.prog elTT 113 lenS := by
  refine spec_of_exF (cfg := cfg115) (cfg_ok rfl rfl rfl) (sigGet0_ok place_ok rfl) (fn := Try.f113) (by kernel_rfl) (by kernel_rfl) (by kernel_rfl) ?_
  intro args H K h
  unfold lenS at h
  simp only at h
  split at h
  · rename_i T its
    exact Eq.mpr (nf113 its T K) h
  · exact h.elim

theorem new_ok : SpecOK Try.prog elTT 103 newS := by
  refine spec_of_exF (cfg := cfg115) (cfg_ok rfl rfl rfl) (sigGet0_ok place_ok rfl) (fn := Try.f103) (by kernel_rfl) (by kernel_rfl) (by kernel_rfl) ?_
  intro args H K h
  unfold newS at h
  simp only at h
  split at h
  · exact Eq.mpr (nf103 K) h
  · exact h.elim
end Go.Rx
end
