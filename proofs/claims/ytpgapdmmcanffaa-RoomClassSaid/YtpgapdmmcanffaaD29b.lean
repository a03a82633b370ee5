/- What the functions tell, off their normal forms (by a program of this session's); their contracts. -/
import Derived.Test.YtpgapdmmcanffaaN29b
namespace Go.Rx
open Go.Proofs

def v81_0 (xs : List Int) : Int := (bif (Decidable.decide (List.getD xs 0 0 < 0)) then (0) else (bif (!Go.Rx.v89_0 [List.getD xs 1 0]) then (0) else (bif (Decidable.decide ((if List.getD xs (1 : Nat) (0 : Int) > List.getD xs (0 : Nat) (0 : Int) then List.getD xs (1 : Nat) (0 : Int) else List.getD xs (0 : Nat) (0 : Int)) ≤ (16 : Int))) then (Go.Rx.v90_0 [if List.getD xs (1 : Nat) (0 : Int) > List.getD xs (0 : Nat) (0 : Int) then List.getD xs (1 : Nat) (0 : Int) else List.getD xs (0 : Nat) (0 : Int)]) else (-1))))

def v81_1 (xs : List Int) : Int := (bif (Decidable.decide (List.getD xs 0 0 < 0)) then (0) else (bif (!Go.Rx.v89_0 [List.getD xs 1 0]) then (0) else (bif (Decidable.decide ((if List.getD xs (1 : Nat) (0 : Int) > List.getD xs (0 : Nat) (0 : Int) then List.getD xs (1 : Nat) (0 : Int) else List.getD xs (0 : Nat) (0 : Int)) ≤ (16 : Int))) then (0) else (Go.Rx.v60_0 [if (1 : Int) > List.getD xs (0 : Nat) (0 : Int) then (1 : Int) else List.getD xs (0 : Nat) (0 : Int)]))))

def v81_2 (xs : List Int) : Int := (bif (Decidable.decide (List.getD xs 0 0 < 0)) then (0) else (bif (!Go.Rx.v89_0 [List.getD xs 1 0]) then (0) else (bif (Decidable.decide ((if List.getD xs (1 : Nat) (0 : Int) > List.getD xs (0 : Nat) (0 : Int) then List.getD xs (1 : Nat) (0 : Int) else List.getD xs (0 : Nat) (0 : Int)) ≤ (16 : Int))) then (0) else (if Go.IntKind.wrap Go.IntKind.i64 (Int.tdiv (List.getD xs (1 : Nat) (0 : Int)) (32 : Int)) > (1 : Int) then Go.IntKind.wrap Go.IntKind.i64 (Int.tdiv (List.getD xs (1 : Nat) (0 : Int)) (32 : Int)) else (1 : Int)))))

def v81_3 (xs : List Int) : Int := (bif (Decidable.decide (List.getD xs 0 0 < 0)) then (2) else (bif (!Go.Rx.v89_0 [List.getD xs 1 0]) then (2) else (0)))

def p81 (xs : List Int) : Prop := True

def s81 : Spec := fS [0, 0] p81 (fun xs => .tup [vi (v81_0 xs), vi (v81_1 xs), vi (v81_2 xs), vi (v81_3 xs)])

def q81 : Spec where
  tr := fun args H K => match H, shA [0, 0] args with
    | [], some xs => p81 xs ∧ ∀ (x0 : Int) (x1 : Int) (x2 : Int) (x3 : Int), x0 = v81_0 xs → x1 = v81_1 xs → x2 = v81_2 xs → x3 = v81_3 xs → K (.tup [vi x0, vi x1, vi x2, vi x3]) []
    | _, _ => False

def v82_0 (xs : List Int) : Int := (bif (Decidable.decide (List.getD xs 0 0 < 0)) then (0) else (bif (!Go.Rx.v91_0 [List.getD xs 1 0]) then (0) else (bif (Decidable.decide (List.getD xs 0 0 ≤ 16)) then (bif (Decidable.decide (List.getD xs 1 0 ≤ 16)) then (if Go.Rx.v92_0 [List.getD xs (1 : Nat) (0 : Int)] > Go.Rx.v92_0 [List.getD xs (0 : Nat) (0 : Int)] then Go.Rx.v92_0 [List.getD xs (1 : Nat) (0 : Int)] else Go.Rx.v92_0 [List.getD xs (0 : Nat) (0 : Int)]) else (-1)) else (-1))))

def v82_1 (xs : List Int) : Int := (bif (Decidable.decide (List.getD xs 0 0 < 0)) then (0) else (bif (!Go.Rx.v91_0 [List.getD xs 1 0]) then (0) else (bif (Decidable.decide (List.getD xs 0 0 ≤ 16)) then (bif (Decidable.decide (List.getD xs 1 0 ≤ 16)) then (0) else (Go.Rx.v93_0 [if (1 : Int) > List.getD xs (0 : Nat) (0 : Int) then (1 : Int) else List.getD xs (0 : Nat) (0 : Int)])) else (Go.Rx.v93_0 [if (1 : Int) > List.getD xs (0 : Nat) (0 : Int) then (1 : Int) else List.getD xs (0 : Nat) (0 : Int)]))))

def v82_2 (xs : List Int) : Int := (bif (Decidable.decide (List.getD xs 0 0 < 0)) then (0) else (bif (!Go.Rx.v91_0 [List.getD xs 1 0]) then (0) else (bif (Decidable.decide (List.getD xs 0 0 ≤ 16)) then (bif (Decidable.decide (List.getD xs 1 0 ≤ 16)) then (0) else (if Go.IntKind.wrap Go.IntKind.i64 (Int.tdiv (List.getD xs (1 : Nat) (0 : Int)) (32 : Int)) > (1 : Int) then Go.IntKind.wrap Go.IntKind.i64 (Int.tdiv (List.getD xs (1 : Nat) (0 : Int)) (32 : Int)) else (1 : Int))) else (if Go.IntKind.wrap Go.IntKind.i64 (Int.tdiv (List.getD xs (1 : Nat) (0 : Int)) (32 : Int)) > (1 : Int) then Go.IntKind.wrap Go.IntKind.i64 (Int.tdiv (List.getD xs (1 : Nat) (0 : Int)) (32 : Int)) else (1 : Int)))))

def v82_3 (xs : List Int) : Int := (bif (Decidable.decide (List.getD xs 0 0 < 0)) then (2) else (bif (!Go.Rx.v91_0 [List.getD xs 1 0]) then (2) else (0)))

def p82 (xs : List Int) : Prop := True

def s82 : Spec := fS [0, 0] p82 (fun xs => .tup [vi (v82_0 xs), vi (v82_1 xs), vi (v82_2 xs), vi (v82_3 xs)])

def q82 : Spec where
  tr := fun args H K => match H, shA [0, 0] args with
    | [], some xs => p82 xs ∧ ∀ (x0 : Int) (x1 : Int) (x2 : Int) (x3 : Int), x0 = v82_0 xs → x1 = v82_1 xs → x2 = v82_2 xs → x3 = v82_3 xs → K (.tup [vi x0, vi x1, vi x2, vi x3]) []
    | _, _ => False

def v54_0 (xs : List Int) : Int := (if Go.IntKind.wrap Go.IntKind.i64 (Go.Rx.v14_2 [List.getD xs (0 : Nat) (0 : Int), List.getD xs (1 : Nat) (0 : Int), List.getD xs (2 : Nat) (0 : Int), List.getD xs (3 : Nat) (0 : Int), List.getD xs (4 : Nat) (0 : Int), List.getD xs (5 : Nat) (0 : Int), List.getD xs (6 : Nat) (0 : Int), List.getD xs (7 : Nat) (0 : Int), List.getD xs (8 : Nat) (0 : Int), List.getD xs (9 : Nat) (0 : Int), List.getD xs (10 : Nat) (0 : Int), List.getD xs (11 : Nat) (0 : Int), List.getD xs (12 : Nat) (0 : Int), List.getD xs (13 : Nat) (0 : Int), List.getD xs (14 : Nat) (0 : Int), List.getD xs (15 : Nat) (0 : Int), List.getD xs (16 : Nat) (0 : Int), List.getD xs (17 : Nat) (0 : Int), List.getD xs (18 : Nat) (0 : Int), List.getD xs (19 : Nat) (0 : Int), List.getD xs (20 : Nat) (0 : Int), List.getD xs (21 : Nat) (0 : Int), List.getD xs (22 : Nat) (0 : Int)] - List.getD xs (29 : Nat) (0 : Int)) > (0 : Int) then Go.IntKind.wrap Go.IntKind.i64 (Go.Rx.v14_2 [List.getD xs (0 : Nat) (0 : Int), List.getD xs (1 : Nat) (0 : Int), List.getD xs (2 : Nat) (0 : Int), List.getD xs (3 : Nat) (0 : Int), List.getD xs (4 : Nat) (0 : Int), List.getD xs (5 : Nat) (0 : Int), List.getD xs (6 : Nat) (0 : Int), List.getD xs (7 : Nat) (0 : Int), List.getD xs (8 : Nat) (0 : Int), List.getD xs (9 : Nat) (0 : Int), List.getD xs (10 : Nat) (0 : Int), List.getD xs (11 : Nat) (0 : Int), List.getD xs (12 : Nat) (0 : Int), List.getD xs (13 : Nat) (0 : Int), List.getD xs (14 : Nat) (0 : Int), List.getD xs (15 : Nat) (0 : Int), List.getD xs (16 : Nat) (0 : Int), List.getD xs (17 : Nat) (0 : Int), List.getD xs (18 : Nat) (0 : Int), List.getD xs (19 : Nat) (0 : Int), List.getD xs (20 : Nat) (0 : Int), List.getD xs (21 : Nat) (0 : Int), List.getD xs (22 : Nat) (0 : Int)] - List.getD xs (29 : Nat) (0 : Int)) else (0 : Int))

def p54 (xs : List Int) : Prop := True

def s54 : Spec := fS [23, 7] p54 (fun xs => vi (v54_0 xs))

def q54 : Spec where
  tr := fun args H K => match H, shA [23, 7] args with
    | [], some xs => p54 xs ∧ ∀ (x0 : Int), x0 = v54_0 xs → K (vi x0) []
    | _, _ => False



attribute [local irreducible] Loop ex exF contK roundK retK at_ bodyOf mkEnv mkA



theorem ok81 : SpecOK Try.prog elTT 81 s81 :=
  fS_ok (cfg := cfgA 81 sig29b noU9) (cfg_ok rfl rfl rfl) sig29b_ok (fn := Try.f81) (by kernel_rfl) (by kernel_rfl) (by kernel_rfl) fun xs K hp hk => Eq.mpr (nf81 xs K) (br_intro (fun h0 => by simpa only [v81_0, v81_1, v81_2, v81_3, h0, cond_true, cond_false] using hk) (fun h0 => ⟨trivial, br_intro (fun h1 => by simpa only [v81_0, v81_1, v81_2, v81_3, h0, h1, cond_true, cond_false] using hk) (fun h1 => br_intro (fun h2 => ⟨trivial, by simpa only [v81_0, v81_1, v81_2, v81_3, h0, h1, h2, cond_true, cond_false] using hk⟩) (fun h2 => ⟨trivial, by simpa only [v81_0, v81_1, v81_2, v81_3, h0, h1, h2, cond_true, cond_false] using hk⟩))⟩))

theorem okq81 : SpecOK Try.prog elTT 81 q81 :=
  spec_mono (fun args H K h => by
    unfold q81 at h
    simp only at h
    split at h
    · rename_i xs hxs
      unfold s81 fS
      simp only [hxs]
      exact ⟨h.1, h.2 _ _ _ _ rfl rfl rfl rfl⟩
    · exact h.elim) ok81

theorem ok82 : SpecOK Try.prog elTT 82 s82 :=
  fS_ok (cfg := cfgA 82 sig29b noU9) (cfg_ok rfl rfl rfl) sig29b_ok (fn := Try.f82) (by kernel_rfl) (by kernel_rfl) (by kernel_rfl) fun xs K hp hk => Eq.mpr (nf82 xs K) (br_intro (fun h0 => by simpa only [v82_0, v82_1, v82_2, v82_3, h0, cond_true, cond_false] using hk) (fun h0 => ⟨trivial, br_intro (fun h1 => by simpa only [v82_0, v82_1, v82_2, v82_3, h0, h1, cond_true, cond_false] using hk) (fun h1 => br_intro (fun h2 => br_intro (fun h3 => ⟨trivial, ⟨trivial, by simpa only [v82_0, v82_1, v82_2, v82_3, h0, h1, h2, h3, cond_true, cond_false] using hk⟩⟩) (fun h3 => ⟨trivial, by simpa only [v82_0, v82_1, v82_2, v82_3, h0, h1, h2, h3, cond_true, cond_false] using hk⟩)) (fun h2 => ⟨trivial, by simpa only [v82_0, v82_1, v82_2, v82_3, h0, h1, h2, cond_true, cond_false] using hk⟩))⟩))

theorem okq82 : SpecOK Try.prog elTT 82 q82 :=
  spec_mono (fun args H K h => by
    unfold q82 at h
    simp only at h
    split at h
    · rename_i xs hxs
      unfold s82 fS
      simp only [hxs]
      exact ⟨h.1, h.2 _ _ _ _ rfl rfl rfl rfl⟩
    · exact h.elim) ok82

theorem ok54 : SpecOK Try.prog elTT 54 s54 :=
  fS_ok (cfg := cfgA 54 sig29b noU9) (cfg_ok rfl rfl rfl) sig29b_ok (fn := Try.f54) (by kernel_rfl) (by kernel_rfl) (by kernel_rfl) fun xs K hp hk => Eq.mpr (nf54 xs K) (⟨trivial, by simpa only [v54_0, cond_true, cond_false] using hk⟩)

theorem okq54 : SpecOK Try.prog elTT 54 q54 :=
  spec_mono (fun args H K h => by
    unfold q54 at h
    simp only at h
    split at h
    · rename_i xs hxs
      unfold s54 fS
      simp only [hxs]
      exact ⟨h.1, h.2 _ rfl⟩
    · exact h.elim) ok54

end Go.Rx
