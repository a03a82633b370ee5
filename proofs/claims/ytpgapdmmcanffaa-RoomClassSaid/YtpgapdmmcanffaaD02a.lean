import Derived.Test.YtpgapdmmcanffaaN02a
namespace Go.Rx
open Go.Proofs
attribute [local irreducible] Loop ex exF contK roundK retK at_ bodyOf mkEnv mkA

theorem tags_ok : ∀ (t tg : Nat), tagT t = some tg → Try.prog.underlying t = some (.slice (elTT tg)) ∧ ∃ i z, Try.prog.info? (elTT tg) = some i ∧ i.zero = some z ∧ z.cells = (elEnc tg (elD tg)).toArray ∧ i.size = elM tg ∧ i.bytes ≤ 65536 := by
  intro t tg h
  unfold tagT at h
  split at h
  · injection h with h; subst h; exact tag_ok (by kernel_rfl) (by kernel_rfl) (by kernel_rfl) (by kernel_rfl) (by kernel_rfl) (by kernel_rfl)
  · injection h with h; subst h; exact tag_ok (by kernel_rfl) (by kernel_rfl) (by kernel_rfl) (by kernel_rfl) (by kernel_rfl) (by kernel_rfl)
  · injection h with h; subst h; exact tag_ok (by kernel_rfl) (by kernel_rfl) (by kernel_rfl) (by kernel_rfl) (by kernel_rfl) (by kernel_rfl)
  · cases h

theorem small_ok : ∀ (t tg : Nat), tagT t = some tg → elM tg ≤ 4096 := by
  intro t tg h
  unfold tagT at h
  split at h
  · injection h with h; subst h; decide
  · injection h with h; subst h; decide
  · injection h with h; subst h; decide
  · cases h

theorem mixed_ok : Try.prog.follows .mixedOrders = true := by kernel_rfl

theorem cfg_ok {cfg : Cfg} (h1 : cfg.P = Try.prog) (h2 : cfg.tagOf = tagT) (h3 : cfg.elT = elTT) : CfgOK cfg := by
  obtain ⟨P, tagOf, elT, a, b, c, d, e, f⟩ := cfg
  simp only at h1 h2 h3
  subst h1; subst h2; subst h3
  exact ⟨small_ok, tags_ok, mixed_ok⟩

theorem nosig {cfg : Cfg} (h : cfg.sigs = fun _ => none) : ∀ g s, cfg.sigs g = some s → SpecOK cfg.P cfg.elT g s := by
  intro g s hs; rw [h] at hs; cases hs

theorem btw_of {n low high : Int} {K : V → Heap → Prop} (h : K (vb (btw n low high)) []) : br (decide (n ≥ low)) (K (vb (decide (n ≤ high))) []) (K (vb false) []) := by
  unfold btw at h
  refine br_intro (fun h1 => ?_) (fun h1 => ?_)
  · have h1 : low ≤ n := of_decide_eq_true h1
    simpa [h1] using h
  · have h1 : ¬ low ≤ n := of_decide_eq_false h1
    simpa [h1] using h

theorem holds_ok : SpecOK Try.prog elTT 66 (fS [3] (fun _ => True) (fun xs => vb (btw (i xs 0) (i xs 1) (i xs 2)))) :=
  fS_ok (cfg := cfg66) (cfg_ok rfl rfl rfl) (nosig rfl) (fn := Try.f66) (by kernel_rfl) (by kernel_rfl) (by kernel_rfl) fun xs K _ hk => Eq.mpr (nf66 xs K) (btw_of hk)

theorem between_ok : SpecOK Try.prog elTT 68 (fS [0, 0, 0] (fun _ => True) (fun xs => vb (btw (i xs 0) (i xs 1) (i xs 2)))) :=
  fS_ok (cfg := cfg66) (cfg_ok rfl rfl rfl) (nosig rfl) (fn := Try.f68) (by kernel_rfl) (by kernel_rfl) (by kernel_rfl) fun xs K _ hk => Eq.mpr (nf68 xs K) (btw_of hk)

theorem chunks_ok : SpecOK Try.prog elTT 67 (fS [0] (fun xs => 0 ≤ i xs 0 ∧ i xs 0 ≤ 1099511627776) (fun xs => vi ((i xs 0 + 3) / 4))) :=
  fS_ok (cfg := cfg66) (cfg_ok rfl rfl rfl) (nosig rfl) (fn := Try.f67) (by kernel_rfl) (by kernel_rfl) (by kernel_rfl) fun xs K hp hk => Eq.mpr (nf67 xs K) (by
    unfold i at hp hk
    generalize xs.getD 0 0 = x at *
    simp (disch := omega) only [wrap_id, Int.tdiv_eq_ediv_of_nonneg]
    have e : x + 4 - 1 = x + 3 := by omega
    rw [e]
    exact hk)

theorem sig11_ok : ∀ g s, sig11 g = some s → SpecOK Try.prog elTT g s := by
  intro g s hs
  unfold sig11 at hs
  split at hs
  · injection hs with hs; subst hs; exact holds_ok
  · cases hs

theorem sig13_ok : ∀ g s, sig13 g = some s → SpecOK Try.prog elTT g s := by
  intro g s hs
  unfold sig13 at hs
  split at hs
  · injection hs with hs; subst hs; exact between_ok
  · cases hs

theorem check_ok : SpecOK Try.prog elTT 11 (fS [11] (fun _ => True) (fun c => vi (bif rightM c then 0 else 2))) :=
  fS_ok (cfg := cfg11) (cfg_ok rfl rfl rfl) sig11_ok (fn := Try.f11) (by kernel_rfl) (by kernel_rfl) (by kernel_rfl) fun xs K _ hk => Eq.mpr (nf11 xs K) (by
    unfold rightM i at hk
    generalize btw (xs.getD 0 0) 1 64 = b0 at *
    generalize btw (xs.getD 1 0) 1 8 = b1 at *
    generalize btw (xs.getD 2 0) 1 256 = b2 at *
    generalize btw (xs.getD 3 0) 1 64 = b3 at *
    generalize btw (xs.getD 4 0) 0 16 = b4 at *
    generalize btw (xs.getD 5 0) 0 64 = b5 at *
    generalize btw (xs.getD 6 0) 1 1099511627776 = b6 at *
    generalize btw (xs.getD 7 0) 1 8 = b7 at *
    generalize btw (xs.getD 8 0) 0 8 = b8 at *
    generalize btw (xs.getD 9 0) 0 16 = b9 at *
    generalize btw (xs.getD 10 0) 1 8 = b10 at *
    refine ⟨trivial, ?_⟩
    cases b0 with
    | false => exact hk
    | true =>
    refine br_false rfl ?_
    refine ⟨trivial, ?_⟩
    cases b1 with
    | false => exact hk
    | true =>
    refine br_false rfl ?_
    refine ⟨trivial, ?_⟩
    cases b2 with
    | false => exact hk
    | true =>
    refine br_false rfl ?_
    refine ⟨trivial, ?_⟩
    cases b3 with
    | false => exact hk
    | true =>
    refine br_false rfl ?_
    refine ⟨trivial, ?_⟩
    cases b4 with
    | false => exact hk
    | true =>
    refine br_false rfl ?_
    refine ⟨trivial, ?_⟩
    cases b5 with
    | false => exact hk
    | true =>
    refine br_false rfl ?_
    refine ⟨trivial, ?_⟩
    cases b6 with
    | false => exact hk
    | true =>
    refine br_false rfl ?_
    refine ⟨trivial, ?_⟩
    cases b7 with
    | false => exact hk
    | true =>
    refine br_false rfl ?_
    refine ⟨trivial, ?_⟩
    cases b8 with
    | false => exact hk
    | true =>
    refine br_false rfl ?_
    refine ⟨trivial, ?_⟩
    cases b9 with
    | false => exact hk
    | true =>
    refine br_false rfl ?_
    refine ⟨trivial, ?_⟩
    cases b10 with
    | false => exact hk
    | true =>
    refine br_false rfl ?_
    exact hk)

theorem right_ok : SpecOK Try.prog elTT 13 (fS [11] (fun _ => True) (fun c => vb (rightM c))) :=
  fS_ok (cfg := cfg13) (cfg_ok rfl rfl rfl) sig13_ok (fn := Try.f13) (by kernel_rfl) (by kernel_rfl) (by kernel_rfl) fun xs K _ hk => Eq.mpr (nf13 xs K) (by
    unfold rightM i at hk
    generalize btw (xs.getD 0 0) 1 64 = b0 at *
    generalize btw (xs.getD 1 0) 1 8 = b1 at *
    generalize btw (xs.getD 2 0) 1 256 = b2 at *
    generalize btw (xs.getD 3 0) 1 64 = b3 at *
    generalize btw (xs.getD 4 0) 0 16 = b4 at *
    generalize btw (xs.getD 5 0) 0 64 = b5 at *
    generalize btw (xs.getD 6 0) 1 1099511627776 = b6 at *
    generalize btw (xs.getD 7 0) 1 8 = b7 at *
    generalize btw (xs.getD 8 0) 0 8 = b8 at *
    generalize btw (xs.getD 9 0) 0 16 = b9 at *
    generalize btw (xs.getD 10 0) 1 8 = b10 at *
    revert hk
    cases b0 <;> cases b1 <;> cases b2 <;> cases b3 <;> simp [br] <;> cases b4 <;> cases b5 <;> simp [br] <;> cases b6 <;> simp [br] <;> cases b7 <;> cases b8 <;> cases b9 <;> simp [br])

end Go.Rx
