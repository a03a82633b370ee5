/- What the functions tell, off their normal forms (by a program of this session's); their contracts. -/
import Derived.Test.YtpgapdmmcanffaaN29c
namespace Go.Rx
open Go.Proofs

def v50_0 (xs : List Int) : Int := (bif (Go.Rx.v81_3 [List.getD xs 0 0, List.getD xs 1 0] != 0) then (0) else (bif (Go.Rx.v81_1 [List.getD xs 0 0, List.getD xs 1 0] == 0) then (1) else (Go.IntKind.wrap Go.IntKind.i64 (Go.IntKind.wrap Go.IntKind.i64 (Go.Rx.v81_1 [List.getD xs 0 0, List.getD xs 1 0] + Go.Rx.v81_2 [List.getD xs 0 0, List.getD xs 1 0]) - 1))))

def v50_1 (xs : List Int) : Int := (bif (Go.Rx.v81_3 [List.getD xs 0 0, List.getD xs 1 0] != 0) then (Go.Rx.v81_3 [List.getD xs 0 0, List.getD xs 1 0]) else (0))

def p50 (xs : List Int) : Prop := True

def s50 : Spec := fS [0, 0] p50 (fun xs => .tup [vi (v50_0 xs), vi (v50_1 xs)])

def q50 : Spec where
  tr := fun args H K => match H, shA [0, 0] args with
    | [], some xs => p50 xs ∧ ∀ (x0 : Int) (x1 : Int), x0 = v50_0 xs → x1 = v50_1 xs → K (.tup [vi x0, vi x1]) []
    | _, _ => False

def v51_0 (xs : List Int) : Int := (bif (Go.Rx.v82_3 [List.getD xs 0 0, List.getD xs 1 0] != 0) then (0) else (bif (Decidable.decide (Go.Rx.v82_0 [List.getD xs 0 0, List.getD xs 1 0] ≥ 0)) then (1) else (Go.IntKind.wrap Go.IntKind.i64 (Go.IntKind.wrap Go.IntKind.i64 (Go.Rx.v82_1 [List.getD xs 0 0, List.getD xs 1 0] + Go.Rx.v82_2 [List.getD xs 0 0, List.getD xs 1 0]) - 1))))

def v51_1 (xs : List Int) : Int := (bif (Go.Rx.v82_3 [List.getD xs 0 0, List.getD xs 1 0] != 0) then (Go.Rx.v82_3 [List.getD xs 0 0, List.getD xs 1 0]) else (0))

def p51 (xs : List Int) : Prop := True

def s51 : Spec := fS [0, 0] p51 (fun xs => .tup [vi (v51_0 xs), vi (v51_1 xs)])

def q51 : Spec where
  tr := fun args H K => match H, shA [0, 0] args with
    | [], some xs => p51 xs ∧ ∀ (x0 : Int) (x1 : Int), x0 = v51_0 xs → x1 = v51_1 xs → K (.tup [vi x0, vi x1]) []
    | _, _ => False



attribute [local irreducible] Loop ex exF contK roundK retK at_ bodyOf mkEnv mkA



theorem ok50 : SpecOK Try.prog elTT 50 s50 :=
  fS_ok (cfg := cfgA 50 sig29c noU9) (cfg_ok rfl rfl rfl) sig29c_ok (fn := Try.f50) (by kernel_rfl) (by kernel_rfl) (by kernel_rfl) fun xs K hp hk => Eq.mpr (nf50 xs K) (⟨trivial, br_intro (fun h0 => by simpa only [v50_0, v50_1, h0, cond_true, cond_false] using hk) (fun h0 => br_intro (fun h1 => by simpa only [v50_0, v50_1, h0, h1, cond_true, cond_false] using hk) (fun h1 => by simpa only [v50_0, v50_1, h0, h1, cond_true, cond_false] using hk))⟩)

theorem okq50 : SpecOK Try.prog elTT 50 q50 :=
  spec_mono (fun args H K h => by
    unfold q50 at h
    simp only at h
    split at h
    · rename_i xs hxs
      unfold s50 fS
      simp only [hxs]
      exact ⟨h.1, h.2 _ _ rfl rfl⟩
    · exact h.elim) ok50

theorem ok51 : SpecOK Try.prog elTT 51 s51 :=
  fS_ok (cfg := cfgA 51 sig29c noU9) (cfg_ok rfl rfl rfl) sig29c_ok (fn := Try.f51) (by kernel_rfl) (by kernel_rfl) (by kernel_rfl) fun xs K hp hk => Eq.mpr (nf51 xs K) (⟨trivial, br_intro (fun h0 => by simpa only [v51_0, v51_1, h0, cond_true, cond_false] using hk) (fun h0 => br_intro (fun h1 => by simpa only [v51_0, v51_1, h0, h1, cond_true, cond_false] using hk) (fun h1 => by simpa only [v51_0, v51_1, h0, h1, cond_true, cond_false] using hk))⟩)

theorem okq51 : SpecOK Try.prog elTT 51 q51 :=
  spec_mono (fun args H K h => by
    unfold q51 at h
    simp only at h
    split at h
    · rename_i xs hxs
      unfold s51 fS
      simp only [hxs]
      exact ⟨h.1, h.2 _ _ rfl rfl⟩
    · exact h.elim) ok51

end Go.Rx
