/- What the row's text of this claim stands on, part 4: the symbolic executor, contracts of the program's functions, plain facts. No condition. -/
import Derived.WalkKit
import Derived.ProofKit
import Derived.OpenShut
import Derived.Carry
import Derived.Deep.Slices
import Derived.JoinedOf
import Derived.Test.YtgogaoelkdjajaaK08bC
section
/- Layer 8, plainly: the program's functions and the document's tell the same. -/
namespace Go.Rx
open Go.Proofs

section
variable {L : T_layout_Layout} {nw : Nat} {cur : List Int}
theorem Unmap_eq (v : VOK L nw cur) (k : Int) : m_chunk_Unmap nw cur L k = some (turnB cur L.c.Pages L.at_0 k 0, turnU cur L.c.Pages L.at_0 k 0) := by
  unfold m_chunk_Unmap; rw [turn_eq v]; rfl
theorem Mapped_eq (v : VOK L nw cur) (k : Int) : m_chunk_Mapped nw cur L k = some (isB cur L.c.Pages L.at_0 k 1) := by
  unfold m_chunk_Mapped; rw [is_eq v]; rfl
theorem Covers_eq (v : VOK L nw cur) {p n : Int} (hp : -9223372036854775808 ≤ p ∧ p ≤ 9223372036854775807) : m_chunk_Covers nw cur L p n = some (coversM cur L.c.Pages L.at_0 p n) := by
  unfold m_chunk_Covers
  rw [span_eq v.lay hp, Option.bind_some]
  unfold coversM
  cases hs : spanB L.c.Pages p n with
  | false => exact loopO_end rfl
  | true =>
    obtain ⟨s1, s2, s3, s4⟩ := span_of hs
    have hpg := v.lay.pages
    rw [if_pos rfl, ensK_span hs, Bool.true_and]
    generalize hm : ((p + n - 1) / 4 - p / 4 + 1).toNat = m
    obtain ⟨r, h1, rfl⟩ := loopO_ind (step := fun s : Bool × Int => sb_chunk_Covers_L1 nw cur L ((p + n - 1) / 4) s.1 s.2)
      (I := fun s => ∃ j : Nat, j ≤ m ∧ s.2 = p / 4 + j ∧ s.1 = allN cur L.c.Pages L.at_0 (p / 4) j)
      (μ := fun s => ((p + n - 1) / 4 + 1 - s.2).toNat) (fun r => r = allN cur L.c.Pages L.at_0 (p / 4) m) (by
        rintro ⟨b, k⟩ ⟨j, hj, e1, e2⟩
        simp only at e1 e2
        subst e1; subst e2
        have hmono : allN cur L.c.Pages L.at_0 (p / 4) j = false → allN cur L.c.Pages L.at_0 (p / 4) m = false := by
          intro hf
          cases hm2 : allN cur L.c.Pages L.at_0 (p / 4) m with
          | false => rfl
          | true => rw [allN_iff.2 (fun i hi => allN_iff.1 hm2 i (by omega))] at hf; exact hf
        simp only [sb_chunk_Covers_L1]
        cases ha : allN cur L.c.Pages L.at_0 (p / 4) j with
        | false => exact .inr ⟨false, rfl, (hmono ha).symm⟩
        | true =>
          rw [cond_true]
          by_cases e : p / 4 + (j : Int) ≤ (p + n - 1) / 4
          · rw [decide_eq_true e, cond_true, Mapped_eq v, Option.bind_some, wrap_id (x := p / 4 + (j : Int) + 1) (by omega) (by omega)]
            refine .inl ⟨_, rfl, ⟨j + 1, by omega, by simp only; omega, ?_⟩, by simp only; omega⟩
            simp only [allN, ha, Bool.true_and]
          · rw [decide_eq_false e, cond_false]
            have ej : j = m := by omega
            subst ej
            exact .inr ⟨true, rfl, ha.symm⟩) (true, p / 4) ⟨0, by omega, by simp, rfl⟩
    exact h1
theorem cntN_le (cur : List Int) (pg tb : Int) : ∀ n : Nat, 0 ≤ cntN cur pg tb n ∧ cntN cur pg tb n ≤ 4 * (n : Int)
  | 0 => by simp [cntN]
  | n + 1 => by
    have h := cntN_le cur pg tb n
    have h2 := pagesN_le pg n
    simp only [cntN]
    cases isB cur pg tb n 1 <;> simp only [cond_true, cond_false] <;> omega
theorem cCount_eq (v : VOK L nw cur) : m_chunk_Count nw cur L = some (countM cur L.c.Pages L.at_0) := by
  unfold m_chunk_Count
  rw [Chunks_eq v.lay, Option.bind_some]
  have hpg := v.lay.pages
  unfold countM
  have hc : (chunksN L.c.Pages : Int) = (L.c.Pages + 3) / 4 := by unfold chunksN; omega
  generalize chunksN L.c.Pages = m at *
  rw [← hc]
  obtain ⟨r, h1, rfl⟩ := loopO_ind (step := fun s : Int × Int => sb_chunk_Count_L1 nw cur L (m : Int) s.1 s.2)
    (I := fun s => ∃ j : Nat, j ≤ m ∧ s = (cntN cur L.c.Pages L.at_0 j, (j : Int))) (μ := fun s => m - s.2.toNat) (fun r => r = cntN cur L.c.Pages L.at_0 m) (by
      rintro _ ⟨j, hj, rfl⟩
      simp only [sb_chunk_Count_L1]
      have hle := cntN_le cur L.c.Pages L.at_0 j
      have hpn := pagesN_le L.c.Pages j
      by_cases e : j < m
      · rw [decide_eq_true (show (j : Int) < (m : Int) by omega), cond_true, Mapped_eq v, Option.bind_some, Pages_eq v.lay, Option.bind_some, wrap_succ (by omega), wrap_id (by omega) (by omega)]
        refine .inl ⟨(cntN cur L.c.Pages L.at_0 (j + 1), ((j + 1 : Nat) : Int)), ?_, ⟨j + 1, e, rfl⟩, by simp only; omega⟩
        simp only [cntN]
        cases isB cur L.c.Pages L.at_0 j 1 <;> simp
      · have ej : j = m := by omega
        subst ej
        rw [decide_eq_false (by omega), cond_false]
        exact .inr ⟨_, rfl, rfl⟩) (0, 0) ⟨0, by omega, rfl⟩
  exact h1
end

/-! The document's. -/
section
variable {c : T_api_Config}
theorem rOf_eq {p : Int} (h : -9223372036854775808 ≤ p ∧ p ≤ 9223372036854775807) : m_ref08_Of p = some (chunkI p) := by
  unfold m_ref08_Of chunkI
  by_cases a : p < 0
  · rw [decide_eq_true a]; rfl
  · rw [decide_eq_false a, Int.tdiv_eq_ediv_of_nonneg (by omega), wrap_id (by omega) (by omega)]; rfl
theorem rthere_eq (h : RightC c) (k : Int) : m_ref08_there ⟨c⟩ k = some (thereB c.Pages k) := by
  unfold m_ref08_there thereB
  rw [rChunks_eq h]
  by_cases a : 0 ≤ k
  · rw [decide_eq_true (show k ≥ 0 from a)]; rfl
  · rw [decide_eq_false (show ¬ k ≥ 0 from a)]; rfl
theorem rMapped_eq (h : RightC c) {w : List Int} (v : VOK (layC c) w.length w) (k : Int) : m_ref08_Mapped ⟨c⟩ k w = some (isB w c.Pages (layC c).at_0 k 1) := by
  unfold m_ref08_Mapped isB
  simp only [rthere_eq h, rTable_eq h, Option.bind_some]
  cases hk : thereB c.Pages k with
  | false => rfl
  | true =>
    obtain ⟨h1, h2⟩ := tab_in v hk
    have ho : offs ((layC c).at_0 + k) 0 = (layC c).at_0 + k := by
      obtain ⟨k1, k2⟩ := there_of hk
      have := v.tab
      have e : (layC c).at_0 + k = ((((layC c).at_0 + k).toNat : Nat) : Int) := by omega
      rw [e]; rfl
    simp only [cond_true, h1, h2, ho, Bool.true_and]
theorem rTurn_eq (h : RightC c) {w : List Int} (v : VOK (layC c) w.length w) (k st : Int) : m_ref08_Turn ⟨c⟩ k st w = some (turnB w c.Pages (layC c).at_0 k st, turnU w c.Pages (layC c).at_0 k st) := by
  unfold m_ref08_Turn turnU turnB
  simp only [rthere_eq h, rTable_eq h, rMapped_eq h v, Option.bind_some]
  cases hk : thereB c.Pages k with
  | false => rfl
  | true =>
    obtain ⟨h1, h2⟩ := tab_in v hk
    have ho : offs ((layC c).at_0 + k) 0 = (layC c).at_0 + k := by
      obtain ⟨k1, k2⟩ := there_of hk
      have := v.tab
      have e : (layC c).at_0 + k = ((((layC c).at_0 + k).toNat : Nat) : Int) := by omega
      rw [e]; rfl
    have e : isB w c.Pages (layC c).at_0 k 1 = (w.getD ((layC c).at_0 + k).toNat 0 == 1) := by unfold isB; rw [hk]; rfl
    rw [e]
    simp only [Bool.not_true, cond_false, h1, h2, ho, cond_true, Bool.true_and]
    cases (w.getD ((layC c).at_0 + k).toNat 0 == 1) == (st == 1) <;> rfl
theorem VOK.turn' {w : List Int} {L : T_layout_Layout} (v : VOK L w.length w) (k st : Int) : VOK L (turnU w L.c.Pages L.at_0 k st).length (turnU w L.c.Pages L.at_0 k st) := ⟨v.lay, rfl, by rw [turnU_len]; exact v.all⟩
theorem rall_eq (h : RightC c) (p n : Int) : m_ref08_all ⟨c⟩ p n = some (spanB c.Pages p n) := by
  have hpg := h.pages
  unfold m_ref08_all spanB
  by_cases a : 1 ≤ n
  · rw [decide_eq_true (show n ≥ 1 from a)]
    by_cases b : 0 ≤ p
    · rw [decide_eq_true (show p ≥ 0 from b)]
      by_cases d : p < c.Pages
      · rw [decide_eq_true d, wrap_id (x := c.Pages - p) (by omega) (by omega)]; rfl
      · rw [decide_eq_false d]; rfl
    · rw [decide_eq_false (show ¬ p ≥ 0 from b)]; rfl
  · rw [decide_eq_false (show ¬ n ≥ 1 from a)]; rfl
theorem rcN_le (cur : List Int) (pg tb : Int) : ∀ n : Nat, 0 ≤ rcN cur pg tb n ∧ rcN cur pg tb n ≤ (n : Int)
  | 0 => by simp [rcN]
  | n + 1 => by
    have h := rcN_le cur pg tb n
    simp only [rcN]
    cases isB cur pg tb ((n : Int) / 4) 1 <;> simp only [cond_true, cond_false] <;> omega
theorem rCount8_eq (h : RightC c) {w : List Int} (v : VOK (layC c) w.length w) : m_ref08_Count ⟨c⟩ w = some (countM w c.Pages (layC c).at_0) := by
  unfold m_ref08_Count
  have hpg := h.pages
  rw [← rc_count (by omega)]
  have hc : (c.Pages.toNat : Int) = c.Pages := by omega
  obtain ⟨r, h1, rfl⟩ := loopO_ind (step := fun s : Int × Int => sb_ref08_Count_L1 ⟨c⟩ w s.1 s.2)
    (I := fun s => ∃ j : Nat, j ≤ c.Pages.toNat ∧ s = (rcN w c.Pages (layC c).at_0 j, (j : Int))) (μ := fun s => c.Pages.toNat - s.2.toNat) (fun r => r = rcN w c.Pages (layC c).at_0 c.Pages.toNat) (by
      rintro _ ⟨j, hj, rfl⟩
      simp only [sb_ref08_Count_L1]
      have hle := rcN_le w c.Pages (layC c).at_0 j
      by_cases e : j < c.Pages.toNat
      · have hch : chunkI (j : Int) = (j : Int) / 4 := by unfold chunkI; rw [decide_eq_false (by omega)]; rfl
        rw [decide_eq_true (show (j : Int) < c.Pages by omega), cond_true, rOf_eq (by omega), Option.bind_some, rMapped_eq h v, Option.bind_some, wrap_succ (by omega), wrap_id (by omega) (by omega), hch]
        refine .inl ⟨(rcN w c.Pages (layC c).at_0 (j + 1), ((j + 1 : Nat) : Int)), ?_, ⟨j + 1, e, rfl⟩, by simp only; omega⟩
        simp only [rcN]
        cases isB w c.Pages (layC c).at_0 ((j : Int) / 4) 1 <;> simp
      · have ej : j = c.Pages.toNat := by omega
        subst ej
        rw [decide_eq_false (by omega), cond_false]
        exact .inr ⟨_, rfl, rfl⟩) (0, 0) ⟨0, by omega, rfl⟩
  exact h1
theorem rCovers_eq (h : RightC c) {w : List Int} (v : VOK (layC c) w.length w) (p n : Int) : m_ref08_Covers ⟨c⟩ p n w = some (coversM w c.Pages (layC c).at_0 p n) := by
  unfold m_ref08_Covers
  rw [rall_eq h, Option.bind_some]
  cases hs : spanB c.Pages p n with
  | false => unfold coversM; rw [hs]; rfl
  | true =>
    obtain ⟨s1, s2, s3, s4⟩ := span_of hs
    have hpg := h.pages
    rw [← rall_covers hs, Bool.not_true, cond_false]
    obtain ⟨r, h1, rfl⟩ := loopO_ind (step := fun s : Int => sb_ref08_Covers_L1 ⟨c⟩ p n w s)
      (I := fun s => ∃ j : Nat, j ≤ n.toNat ∧ s = p + j ∧ rallN w c.Pages (layC c).at_0 p j = true) (μ := fun s => (p + n - s).toNat) (fun r => r = rallN w c.Pages (layC c).at_0 p n.toNat) (by
        rintro _ ⟨j, hj, rfl, ha⟩
        simp only [sb_ref08_Covers_L1]
        rw [wrap_id (x := p + n) (by omega) (by omega)]
        by_cases e : j < n.toNat
        · have hch : chunkI (p + j) = (p + j) / 4 := by unfold chunkI; rw [decide_eq_false (by omega)]; rfl
          rw [decide_eq_true (show p + (j : Int) < p + n by omega), cond_true, rOf_eq (by omega), Option.bind_some, rMapped_eq h v, Option.bind_some, hch, wrap_id (x := p + (j : Int) + 1) (by omega) (by omega)]
          cases hb : isB w c.Pages (layC c).at_0 ((p + j) / 4) 1 with
          | false =>
            refine .inr ⟨false, rfl, ?_⟩
            cases hall : rallN w c.Pages (layC c).at_0 p n.toNat with
            | false => rfl
            | true => rw [rallN_iff.1 hall j e] at hb; cases hb
          | true => exact .inl ⟨_, rfl, ⟨j + 1, by omega, by omega, by simp only [rallN, ha, hb, Bool.true_and]⟩, by omega⟩
        · have ej : j = n.toNat := by omega
          subst ej
          rw [decide_eq_false (by omega), cond_false]
          exact .inr ⟨_, rfl, ha.symm⟩) p ⟨0, by omega, by simp, rfl⟩
    exact h1
theorem rensN_len (cur : List Int) (pg tb p : Int) : ∀ n, (rensN cur pg tb p n).length = cur.length
  | 0 => rfl
  | n + 1 => by rw [rensN, turnU_len, rensN_len]
theorem rEnsure_eq (h : RightC c) {w : List Int} (v : VOK (layC c) w.length w) (p n : Int) : m_ref08_Ensure ⟨c⟩ p n w = some (ensM w c.Pages (layC c).at_0 p n) := by
  unfold m_ref08_Ensure
  rw [rall_eq h, Option.bind_some]
  cases hs : spanB c.Pages p n with
  | false =>
    have hm : ensK c.Pages p n = 0 := by unfold ensK; rw [hs]; rfl
    unfold ensM; rw [hm]; rfl
  | true =>
    obtain ⟨s1, s2, s3, s4⟩ := span_of hs
    have hpg := h.pages
    rw [Bool.not_true, cond_false, rCount8_eq h v, Option.bind_some]
    have ht := v.tab
    have hv : ∀ j, VOK (layC c) (rensN w c.Pages (layC c).at_0 p j).length (rensN w c.Pages (layC c).at_0 p j) := fun j => ⟨v.lay, rfl, by rw [rensN_len]; exact v.all⟩
    have hcnt : ∀ u : List Int, 0 ≤ countM u c.Pages (layC c).at_0 ∧ countM u c.Pages (layC c).at_0 ≤ 1000 := fun u => by
      have := cntN_le u c.Pages (layC c).at_0 (chunksN c.Pages)
      unfold countM; unfold chunksN at *; omega
    obtain ⟨r, h1, rfl⟩ := loopO_ind (step := fun s : Int × List Int => sb_ref08_Ensure_L1 ⟨c⟩ p n (countM w c.Pages (layC c).at_0) s.1 s.2)
      (I := fun s => ∃ j : Nat, j ≤ n.toNat ∧ s = (p + j, rensN w c.Pages (layC c).at_0 p j)) (μ := fun s => (p + n - s.1).toNat) (fun r => r = ensM w c.Pages (layC c).at_0 p n) (by
        rintro _ ⟨j, hj, rfl⟩
        simp only [sb_ref08_Ensure_L1]
        rw [wrap_id (x := p + n) (by omega) (by omega)]
        by_cases e : j < n.toNat
        · have hch : chunkI (p + j) = (p + j) / 4 := by unfold chunkI; rw [decide_eq_false (by omega)]; rfl
          rw [decide_eq_true (show p + (j : Int) < p + n by omega), cond_true, rOf_eq (by omega), Option.bind_some, rTurn_eq h (hv j), Option.bind_some, hch, wrap_id (x := p + (j : Int) + 1) (by omega) (by omega)]
          refine .inl ⟨(p + ((j + 1 : Nat) : Int), rensN w c.Pages (layC c).at_0 p (j + 1)), ?_, ⟨j + 1, by omega, rfl⟩, by simp only; omega⟩
          simp only [rensN]
          congr 3; omega
        · have ej : j = n.toNat := by omega
          subst ej
          rw [decide_eq_false (by omega), cond_false, rCount8_eq h (hv _), Option.bind_some, rens_all (pg := c.Pages) (by omega) ht.2 hs]
          have hce := count_ens (pg := c.Pages) (tb := (layC c).at_0) (cur := w) (by omega) ht.2 (p / 4) (ensK c.Pages p n)
          have hb := hcnt (ensM w c.Pages (layC c).at_0 p n).2
          have hb0 := hcnt w
          refine .inr ⟨_, rfl, ?_⟩
          unfold ensM at hb ⊢
          rw [hce] at hb ⊢
          rw [wrap_id (by omega) (by omega)]
          have : countM w c.Pages (layC c).at_0 + (ensG c.Pages (layC c).at_0 w (p / 4) (ensK c.Pages p n)).1 - countM w c.Pages (layC c).at_0 = (ensG c.Pages (layC c).at_0 w (p / 4) (ensK c.Pages p n)).1 := by omega
          rw [this]) (p, w) ⟨0, by omega, by simp [rensN]⟩
    exact h1
end
end Go.Rx
end

section
/- Contracts. -/
namespace Go.Rx
open Go.Proofs
set_option maxRecDepth 100000
set_option maxHeartbeats 4000000
/-! assart/assartlaw08.Small -/
def tr_law08_Small (m_ : T_api_Config → Option (T_api_Config)) (args : List V) (H : Heap) (K : V → Heap → Prop) : Prop :=
  aC args fun a0 r => aN r <| aAgg a0 fun c0 => d_api_Config c0 fun c => aN H <| So (m_ c) fun x => K (.agg (e_api_Config (x))) []
def sp_law08_Small (m_ : T_api_Config → Option (T_api_Config)) : Spec := ⟨tr_law08_Small m_, true⟩

/-! assart/assartlaw08.Begin -/
def tr_law08_Begin (m_ : T_api_Config → Option (T_layout_Layout × T_assartref02_Layout × (List Int))) (args : List V) (H : Heap) (K : V → Heap → Prop) : Prop :=
  aC args fun a0 r => aN r <| aAgg a0 fun c0 => d_api_Config c0 fun c => aN H <| So (m_ c) fun x => K (.tup [.agg (e_layout_Layout (x.1)), .agg (e_assartref02_Layout (x.2.1)), .row 0]) [.row 0 (x.2.2) false]
def sp_law08_Begin (m_ : T_api_Config → Option (T_layout_Layout × T_assartref02_Layout × (List Int))) : Spec := ⟨tr_law08_Begin m_, true⟩

/-! assart/assartlaw08.done -/
def tr_law08_done (m_ : Nat → (List Int) → T_layout_Layout → T_assartlaw08_Act → Option (Int × (List Int))) (args : List V) (H : Heap) (K : V → Heap → Prop) : Prop :=
  aC args fun a0 r => aC r fun a1 r => aC r fun a2 r => aN r <| aPtr 0 a0 <| aAgg a1 fun c1 => d_layout_Layout c1 fun l2 => aAgg a2 fun c2 => d_assartlaw08_Act c2 fun a => aC H fun b0 r => aC r fun b1 r => aN r <| bView 1 b0 fun ws cur xs => bRow 0 true b1 fun (l : List Int) => ws = l ∧ xs.length ≤ 2 ∧ So (m_ (ws.length) cur l2 a) fun x => K (vi (x.1)) [.pk 0 [ws, x.2] xs [.row 1], .row 0 l true]
def sp_law08_done (m_ : Nat → (List Int) → T_layout_Layout → T_assartlaw08_Act → Option (Int × (List Int))) : Spec := ⟨tr_law08_done m_, true⟩

/-! assart/assartlaw08.told -/
def tr_law08_told (m_ : T_assartref02_Layout → T_assartlaw08_Act → (List Int) → Option (Int × (List Int))) (args : List V) (H : Heap) (K : V → Heap → Prop) : Prop :=
  aC args fun a0 r => aC r fun a1 r => aC r fun a2 r => aN r <| aAgg a0 fun c0 => d_assartref02_Layout c0 fun r_ => aRow 0 a1 <| aAgg a2 fun c2 => d_assartlaw08_Act c2 fun a => aC H fun b0 r => aN r <| bRow 0 false b0 fun (w : List Int) => So (m_ r_ a w) fun x => K (vi (x.1)) [.row 0 (x.2) false]
def sp_law08_told (m_ : T_assartref02_Layout → T_assartlaw08_Act → (List Int) → Option (Int × (List Int))) : Spec := ⟨tr_law08_told m_, false⟩

noncomputable def cfg_law08_Small (m_law02_Some : T_api_Config → Option (T_api_Config)) : Cfg := { cfgB with
  sigs := (sigC 119 (sp_law02_Some m_law02_Some) sigN) }

noncomputable def cfg_law08_Begin (m_law08_Small : T_api_Config → Option (T_api_Config)) (m_layout_Of : T_api_Config → Option (T_layout_Layout × Int)) (m_ref02_Layout_Words : T_assartref02_Layout → Option (Int)) : Cfg := { cfgB with
  sigs := (sigC 71 (sp_law08_Small m_law08_Small) (sigC 68 (sp_layout_Of m_layout_Of) (sigC 72 (sp_ref02_Layout_Words m_ref02_Layout_Words) sigN))),
  planT := fun r => match r with | 4 => some ((chainT [0, 1, 2, 3] (.alt (chainT [4, 5, 6, 7] .fin) (chainT [5] (.alt (chainT [4, 6, 7] .fin) (chainT [6, 4, 7] .fin))))), 3) | _ => none,
  flag := fun d => Nat.beq d 2 || Nat.beq d 3 }

noncomputable def cfg_law08_done (m_chunk_Map : Nat → (List Int) → T_layout_Layout → Int → Option (Bool × (List Int))) (m_chunk_Unmap : Nat → (List Int) → T_layout_Layout → Int → Option (Bool × (List Int))) (m_chunk_Mapped : Nat → (List Int) → T_layout_Layout → Int → Option (Bool)) (m_chunk_Covers : Nat → (List Int) → T_layout_Layout → Int → Int → Option (Bool)) (m_chunk_Ensure : Nat → (List Int) → T_layout_Layout → Int → Int → Option (Int × (List Int))) (m_chunk_Count : Nat → (List Int) → T_layout_Layout → Option (Int)) : Cfg := { cfgB with
  sigs := (sigC 24 (sp_chunk_Map m_chunk_Map) (sigC 25 (sp_chunk_Unmap m_chunk_Unmap) (sigC 67 (sp_chunk_Mapped m_chunk_Mapped) (sigC 28 (sp_chunk_Covers m_chunk_Covers) (sigC 26 (sp_chunk_Ensure m_chunk_Ensure) (sigC 22 (sp_chunk_Count m_chunk_Count) sigN)))))) }

noncomputable def cfg_law08_told (m_ref08_Turn : T_assartref02_Layout → Int → Int → (List Int) → Option (Bool × (List Int))) (m_ref08_Mapped : T_assartref02_Layout → Int → (List Int) → Option (Bool)) (m_ref08_Covers : T_assartref02_Layout → Int → Int → (List Int) → Option (Bool)) (m_ref08_Ensure : T_assartref02_Layout → Int → Int → (List Int) → Option (Int × (List Int))) (m_ref08_Count : T_assartref02_Layout → (List Int) → Option (Int)) : Cfg := { cfgB with
  sigs := (sigC 75 (sp_ref08_Turn m_ref08_Turn) (sigC 76 (sp_ref08_Mapped m_ref08_Mapped) (sigC 77 (sp_ref08_Covers m_ref08_Covers) (sigC 78 (sp_ref08_Ensure m_ref08_Ensure) (sigC 79 (sp_ref08_Count m_ref08_Count) sigN))))) }

theorem nf_law08_Small (m_law02_Some : T_api_Config → Option (T_api_Config)) (c : T_api_Config) (K : V → Heap → Prop) : (exF (cfg_law08_Small m_law02_Some) Try.f71 [.agg (e_api_Config c)] [] K) = (
    So (m_law02_Some c) (fun (y0 : T_api_Config) => (K (.agg [vi (IntKind.wrap IntKind.i64 (1 + Int.tmod (T_api_Config.Workers y0) 4)), vi (IntKind.wrap IntKind.i64 (1 + Int.tmod (T_api_Config.CPUs y0) 2)), vi (IntKind.wrap IntKind.i64 (1 + Int.tmod (T_api_Config.Pages y0) 9)), vi (IntKind.wrap IntKind.i64 (1 + Int.tmod (T_api_Config.Stripes y0) 4)), vi (T_api_Config.Tries y0), vi (T_api_Config.Wait y0), vi (T_api_Config.Clock y0), vi (IntKind.wrap IntKind.i64 (1 + Int.tmod (T_api_Config.Private y0) 3)), vi (Int.tmod (T_api_Config.Cache y0) 3), vi (Int.tmod (T_api_Config.Bin y0) 4), vi (IntKind.wrap IntKind.i64 (1 + Int.tmod (T_api_Config.Batch y0) 3))]) []))) := by
  kernel_rfl

theorem nf_law08_Begin (m_law08_Small : T_api_Config → Option (T_api_Config)) (m_layout_Of : T_api_Config → Option (T_layout_Layout × Int)) (m_ref02_Layout_Words : T_assartref02_Layout → Option (Int)) (c : T_api_Config) (K : V → Heap → Prop) : (exF (cfg_law08_Begin m_law08_Small m_layout_Of m_ref02_Layout_Words) Try.f15 [.agg (e_api_Config c)] [] K) = (
    So (m_law08_Small c) (fun (y0 : T_api_Config) => (So (m_layout_Of y0) (fun (y1 : T_layout_Layout × Int) => (So (m_ref02_Layout_Words (T_assartref02_Layout.mk y0)) (fun (y2 : Int) => (((Req (Decidable.decide (0 ≤ y2 ∧ y2 ≤ y2 ∧ y2 ≤ 1048576)) (K (.tup [.agg (e_layout_Layout (Prod.fst y1)), .agg (e_api_Config y0), .row 0]) [.row 0 (List.replicate (Int.toNat y2) (0 : Int) : List (Int)) Bool.false])) ∧ (((Req (Decidable.decide (0 ≤ y2 ∧ y2 ≤ y2 ∧ y2 ≤ 1048576)) (K (.tup [.agg (e_layout_Layout (Prod.fst y1)), .agg (e_api_Config y0), .row 0]) [.row 0 (List.replicate (Int.toNat y2) (0 : Int) : List (Int)) Bool.false])) ∧ (Req (Decidable.decide (0 ≤ y2 ∧ y2 ≤ y2 ∧ y2 ≤ 1048576)) (K (.tup [.agg (e_layout_Layout (Prod.fst y1)), .agg (e_api_Config y0), .row 0]) [.row 0 (List.replicate (Int.toNat y2) (0 : Int) : List (Int)) Bool.false])))))))))))) := by
  kernel_rfl

theorem nf_law08_done (m_chunk_Map : Nat → (List Int) → T_layout_Layout → Int → Option (Bool × (List Int))) (m_chunk_Unmap : Nat → (List Int) → T_layout_Layout → Int → Option (Bool × (List Int))) (m_chunk_Mapped : Nat → (List Int) → T_layout_Layout → Int → Option (Bool)) (m_chunk_Covers : Nat → (List Int) → T_layout_Layout → Int → Int → Option (Bool)) (m_chunk_Ensure : Nat → (List Int) → T_layout_Layout → Int → Int → Option (Int × (List Int))) (m_chunk_Count : Nat → (List Int) → T_layout_Layout → Option (Int)) (ws : List Int) (cur : List Int) (xs : List Value) (l2 : T_layout_Layout) (a : T_assartlaw08_Act) (K : V → Heap → Prop) : (exF (cfg_law08_done m_chunk_Map m_chunk_Unmap m_chunk_Mapped m_chunk_Covers m_chunk_Ensure m_chunk_Count) Try.f18 [.ptr 0 0, .agg (e_layout_Layout l2), .agg (e_assartlaw08_Act a)] [.pk 0 [ws, cur] xs [.row 1], .row 0 ws true] K) = (
    br (T_assartlaw08_Act.Kind a == 0) (((ws = ws) ∧ (((List.length xs ≤ 2) ∧ (So (m_chunk_Map (List.length ws) cur l2 (T_assartlaw08_Act.K a)) (fun (y0 : Bool × List Int) => (br (Prod.fst y0) (K (vi (1)) [.pk 0 [ws, Prod.snd y0] (xs) [.row 1], .row 0 (ws : List (Int)) Bool.true]) (K (vi (0)) [.pk 0 [ws, Prod.snd y0] (xs) [.row 1], .row 0 (ws : List (Int)) Bool.true])))))))) (br (T_assartlaw08_Act.Kind a == 1) (((ws = ws) ∧ (((List.length xs ≤ 2) ∧ (So (m_chunk_Unmap (List.length ws) cur l2 (T_assartlaw08_Act.K a)) (fun (y1 : Bool × List Int) => (br (Prod.fst y1) (K (vi (1)) [.pk 0 [ws, Prod.snd y1] (xs) [.row 1], .row 0 (ws : List (Int)) Bool.true]) (K (vi (0)) [.pk 0 [ws, Prod.snd y1] (xs) [.row 1], .row 0 (ws : List (Int)) Bool.true])))))))) (br (T_assartlaw08_Act.Kind a == 2) (((ws = ws) ∧ (((List.length xs ≤ 2) ∧ (So (m_chunk_Mapped (List.length ws) cur l2 (T_assartlaw08_Act.K a)) (fun (y2 : Bool) => (br (y2) (K (vi (1)) [.pk 0 [ws, cur] (xs) [.row 1], .row 0 (ws : List (Int)) Bool.true]) (K (vi (0)) [.pk 0 [ws, cur] (xs) [.row 1], .row 0 (ws : List (Int)) Bool.true])))))))) (br (T_assartlaw08_Act.Kind a == 3) (((ws = ws) ∧ (((List.length xs ≤ 2) ∧ (So (m_chunk_Covers (List.length ws) cur l2 (T_assartlaw08_Act.K a) (T_assartlaw08_Act.N a)) (fun (y3 : Bool) => (br (y3) (K (vi (1)) [.pk 0 [ws, cur] (xs) [.row 1], .row 0 (ws : List (Int)) Bool.true]) (K (vi (0)) [.pk 0 [ws, cur] (xs) [.row 1], .row 0 (ws : List (Int)) Bool.true])))))))) (br (T_assartlaw08_Act.Kind a == 4) (((ws = ws) ∧ (((List.length xs ≤ 2) ∧ (So (m_chunk_Ensure (List.length ws) cur l2 (T_assartlaw08_Act.K a) (T_assartlaw08_Act.N a)) (fun (y4 : Int × List Int) => (K (vi (Prod.fst y4)) [.pk 0 [ws, Prod.snd y4] (xs) [.row 1], .row 0 (ws : List (Int)) Bool.true]))))))) (((ws = ws) ∧ (((List.length xs ≤ 2) ∧ (So (m_chunk_Count (List.length ws) cur l2) (fun (y5 : Int) => (K (vi (y5)) [.pk 0 [ws, cur] (xs) [.row 1], .row 0 (ws : List (Int)) Bool.true])))))))))))) := by
  kernel_rfl

theorem nf_law08_told (m_ref08_Turn : T_assartref02_Layout → Int → Int → (List Int) → Option (Bool × (List Int))) (m_ref08_Mapped : T_assartref02_Layout → Int → (List Int) → Option (Bool)) (m_ref08_Covers : T_assartref02_Layout → Int → Int → (List Int) → Option (Bool)) (m_ref08_Ensure : T_assartref02_Layout → Int → Int → (List Int) → Option (Int × (List Int))) (m_ref08_Count : T_assartref02_Layout → (List Int) → Option (Int)) (r_ : T_assartref02_Layout) (a : T_assartlaw08_Act) (w : List Int) (K : V → Heap → Prop) : (exF (cfg_law08_told m_ref08_Turn m_ref08_Mapped m_ref08_Covers m_ref08_Ensure m_ref08_Count) Try.f19 [.agg (e_assartref02_Layout r_), .row 0, .agg (e_assartlaw08_Act a)] [.row 0 w false] K) = (
    br (T_assartlaw08_Act.Kind a == 0) (So (m_ref08_Turn r_ (T_assartlaw08_Act.K a) 1 w) (fun (y0 : Bool × List Int) => (br (Prod.fst y0) (K (vi (1)) [.row 0 (Prod.snd y0 : List (Int)) Bool.false]) (K (vi (0)) [.row 0 (Prod.snd y0 : List (Int)) Bool.false])))) (br (T_assartlaw08_Act.Kind a == 1) (So (m_ref08_Turn r_ (T_assartlaw08_Act.K a) 0 w) (fun (y1 : Bool × List Int) => (br (Prod.fst y1) (K (vi (1)) [.row 0 (Prod.snd y1 : List (Int)) Bool.false]) (K (vi (0)) [.row 0 (Prod.snd y1 : List (Int)) Bool.false])))) (br (T_assartlaw08_Act.Kind a == 2) (So (m_ref08_Mapped r_ (T_assartlaw08_Act.K a) w) (fun (y2 : Bool) => (br (y2) (K (vi (1)) [.row 0 (w : List (Int)) Bool.false]) (K (vi (0)) [.row 0 (w : List (Int)) Bool.false])))) (br (T_assartlaw08_Act.Kind a == 3) (So (m_ref08_Covers r_ (T_assartlaw08_Act.K a) (T_assartlaw08_Act.N a) w) (fun (y3 : Bool) => (br (y3) (K (vi (1)) [.row 0 (w : List (Int)) Bool.false]) (K (vi (0)) [.row 0 (w : List (Int)) Bool.false])))) (br (T_assartlaw08_Act.Kind a == 4) (So (m_ref08_Ensure r_ (T_assartlaw08_Act.K a) (T_assartlaw08_Act.N a) w) (fun (y4 : Int × List Int) => (K (vi (Prod.fst y4)) [.row 0 (Prod.snd y4 : List (Int)) Bool.false]))) (So (m_ref08_Count r_ w) (fun (y5 : Int) => (K (vi (y5)) [.row 0 (w : List (Int)) Bool.false])))))))) := by
  kernel_rfl

noncomputable def m_law08_Small (c : T_api_Config) : Option (T_api_Config) :=
  ((m_law02_Some c).bind fun y0 => some (((T_api_Config.mk (IntKind.wrap IntKind.i64 (1 + Int.tmod (T_api_Config.Workers y0) 4)) (IntKind.wrap IntKind.i64 (1 + Int.tmod (T_api_Config.CPUs y0) 2)) (IntKind.wrap IntKind.i64 (1 + Int.tmod (T_api_Config.Pages y0) 9)) (IntKind.wrap IntKind.i64 (1 + Int.tmod (T_api_Config.Stripes y0) 4)) (T_api_Config.Tries y0) (T_api_Config.Wait y0) (T_api_Config.Clock y0) (IntKind.wrap IntKind.i64 (1 + Int.tmod (T_api_Config.Private y0) 3)) (Int.tmod (T_api_Config.Cache y0) 3) (Int.tmod (T_api_Config.Bin y0) 4) (IntKind.wrap IntKind.i64 (1 + Int.tmod (T_api_Config.Batch y0) 3))))))

noncomputable def m_law08_Begin (c : T_api_Config) : Option (T_layout_Layout × T_assartref02_Layout × (List Int)) :=
  ((m_law08_Small c).bind fun y0 => ((m_layout_Of y0).bind fun y1 => ((m_ref02_Layout_Words (T_assartref02_Layout.mk y0)).bind fun y2 => (bif (Decidable.decide (0 ≤ y2 ∧ y2 ≤ y2 ∧ y2 ≤ 1048576)) then some ((((Prod.fst y1)), ((T_assartref02_Layout.mk (y0))), (List.replicate (Int.toNat y2) (0 : Int)))) else none))))

noncomputable def m_law08_done (nw : Nat) (cur : List Int) (l2 : T_layout_Layout) (a : T_assartlaw08_Act) : Option (Int × (List Int)) :=
  (bif (T_assartlaw08_Act.Kind a == 0) then ((m_chunk_Map nw cur l2 (T_assartlaw08_Act.K a)).bind fun y0 => (bif (Prod.fst y0) then some (((1), (Prod.snd y0))) else some (((0), (Prod.snd y0))))) else (bif (T_assartlaw08_Act.Kind a == 1) then ((m_chunk_Unmap nw cur l2 (T_assartlaw08_Act.K a)).bind fun y1 => (bif (Prod.fst y1) then some (((1), (Prod.snd y1))) else some (((0), (Prod.snd y1))))) else (bif (T_assartlaw08_Act.Kind a == 2) then ((m_chunk_Mapped nw cur l2 (T_assartlaw08_Act.K a)).bind fun y2 => (bif (y2) then some (((1), (cur))) else some (((0), (cur))))) else (bif (T_assartlaw08_Act.Kind a == 3) then ((m_chunk_Covers nw cur l2 (T_assartlaw08_Act.K a) (T_assartlaw08_Act.N a)).bind fun y3 => (bif (y3) then some (((1), (cur))) else some (((0), (cur))))) else (bif (T_assartlaw08_Act.Kind a == 4) then ((m_chunk_Ensure nw cur l2 (T_assartlaw08_Act.K a) (T_assartlaw08_Act.N a)).bind fun y4 => some (((Prod.fst y4), (Prod.snd y4)))) else ((m_chunk_Count nw cur l2).bind fun y5 => some (((y5), (cur)))))))))

noncomputable def m_law08_told (r_ : T_assartref02_Layout) (a : T_assartlaw08_Act) (w : List Int) : Option (Int × (List Int)) :=
  (bif (T_assartlaw08_Act.Kind a == 0) then ((m_ref08_Turn r_ (T_assartlaw08_Act.K a) 1 w).bind fun y0 => (bif (Prod.fst y0) then some (((1), (Prod.snd y0))) else some (((0), (Prod.snd y0))))) else (bif (T_assartlaw08_Act.Kind a == 1) then ((m_ref08_Turn r_ (T_assartlaw08_Act.K a) 0 w).bind fun y1 => (bif (Prod.fst y1) then some (((1), (Prod.snd y1))) else some (((0), (Prod.snd y1))))) else (bif (T_assartlaw08_Act.Kind a == 2) then ((m_ref08_Mapped r_ (T_assartlaw08_Act.K a) w).bind fun y2 => (bif (y2) then some (((1), (w))) else some (((0), (w))))) else (bif (T_assartlaw08_Act.Kind a == 3) then ((m_ref08_Covers r_ (T_assartlaw08_Act.K a) (T_assartlaw08_Act.N a) w).bind fun y3 => (bif (y3) then some (((1), (w))) else some (((0), (w))))) else (bif (T_assartlaw08_Act.Kind a == 4) then ((m_ref08_Ensure r_ (T_assartlaw08_Act.K a) (T_assartlaw08_Act.N a) w).bind fun y4 => some (((Prod.fst y4), (Prod.snd y4)))) else ((m_ref08_Count r_ w).bind fun y5 => some (((y5), (w)))))))))

attribute [local irreducible] Loop ex exF contK roundK retK at_ bodyOf mkEnv
theorem ok_law08_Small : SpecOK Try.prog elTT 71 (sp_law08_Small m_law08_Small) := by
  refine spec_of_exF (cfg := (cfg_law08_Small m_law02_Some)) (cfg_ok rfl rfl rfl) (sig_cons ok_law02_Some sig_nil) (fn := Try.f71) (by kernel_rfl) (by kernel_rfl) (by kernel_rfl) ?_
  intro args H K h
  change tr_law08_Small m_law08_Small args H K at h
  unfold tr_law08_Small at h
  replace h := aC_el h
  obtain ⟨a0, _, rfl, h⟩ := h
  replace h := aN_el h
  obtain ⟨rfl, h⟩ := h
  replace h := aAgg_el h
  obtain ⟨c0, rfl, h⟩ := h
  replace h := d_api_Config_el h
  obtain ⟨c, rfl, h⟩ := h
  replace h := aN_el h
  obtain ⟨rfl, h⟩ := h
  refine Eq.mpr (nf_law08_Small m_law02_Some c K) ?_
  unfold m_law08_Small at h
  revert h
  exact bind_So fun y0 => fun h => h

theorem ok_law08_Begin : SpecOK Try.prog elTT 15 (sp_law08_Begin m_law08_Begin) := by
  refine spec_of_exF (cfg := (cfg_law08_Begin m_law08_Small m_layout_Of m_ref02_Layout_Words)) (cfg_ok rfl rfl rfl) (sig_cons ok_law08_Small (sig_cons ok_layout_Of (sig_cons ok_ref02_Layout_Words sig_nil))) (fn := Try.f15) (by kernel_rfl) (by kernel_rfl) (by kernel_rfl) ?_
  intro args H K h
  change tr_law08_Begin m_law08_Begin args H K at h
  unfold tr_law08_Begin at h
  replace h := aC_el h
  obtain ⟨a0, _, rfl, h⟩ := h
  replace h := aN_el h
  obtain ⟨rfl, h⟩ := h
  replace h := aAgg_el h
  obtain ⟨c0, rfl, h⟩ := h
  replace h := d_api_Config_el h
  obtain ⟨c, rfl, h⟩ := h
  replace h := aN_el h
  obtain ⟨rfl, h⟩ := h
  refine Eq.mpr (nf_law08_Begin m_law08_Small m_layout_Of m_ref02_Layout_Words c K) ?_
  unfold m_law08_Begin at h
  revert h
  exact bind_So fun y0 => bind_So fun y1 => bind_So fun y2 => alt_So (req_So (fun h => h)) (alt_So (req_So (fun h => h)) (req_So (fun h => h)))

theorem ok_law08_done : SpecOK Try.prog elTT 18 (sp_law08_done m_law08_done) := by
  refine spec_of_exF (cfg := (cfg_law08_done m_chunk_Map m_chunk_Unmap m_chunk_Mapped m_chunk_Covers m_chunk_Ensure m_chunk_Count)) (cfg_ok rfl rfl rfl) (sig_cons ok_chunk_Map (sig_cons ok_chunk_Unmap (sig_cons ok_chunk_Mapped (sig_cons ok_chunk_Covers (sig_cons ok_chunk_Ensure (sig_cons ok_chunk_Count sig_nil)))))) (fn := Try.f18) (by kernel_rfl) (by kernel_rfl) (by kernel_rfl) ?_
  intro args H K h
  change tr_law08_done m_law08_done args H K at h
  unfold tr_law08_done at h
  replace h := aC_el h
  obtain ⟨a0, _, rfl, h⟩ := h
  replace h := aC_el h
  obtain ⟨a1, _, rfl, h⟩ := h
  replace h := aC_el h
  obtain ⟨a2, _, rfl, h⟩ := h
  replace h := aN_el h
  obtain ⟨rfl, h⟩ := h
  replace h := aPtr_el h
  obtain ⟨rfl, h⟩ := h
  replace h := aAgg_el h
  obtain ⟨c1, rfl, h⟩ := h
  replace h := d_layout_Layout_el h
  obtain ⟨l2, rfl, h⟩ := h
  replace h := aAgg_el h
  obtain ⟨c2, rfl, h⟩ := h
  replace h := d_assartlaw08_Act_el h
  obtain ⟨a, rfl, h⟩ := h
  replace h := aC_el h
  obtain ⟨b0, _, rfl, h⟩ := h
  replace h := aC_el h
  obtain ⟨b1, _, rfl, h⟩ := h
  replace h := aN_el h
  obtain ⟨rfl, h⟩ := h
  replace h := bView_el h
  obtain ⟨ws, cur, xs, rfl, h⟩ := h
  replace h := bRow_el h
  obtain ⟨(l : List Int), rfl, h⟩ := h
  obtain ⟨rfl, hx, h⟩ := h
  refine Eq.mpr (nf_law08_done m_chunk_Map m_chunk_Unmap m_chunk_Mapped m_chunk_Covers m_chunk_Ensure m_chunk_Count ws cur xs l2 a K) ?_
  unfold m_law08_done at h
  revert h
  exact br_So (and_So (by first | exact rfl | assumption | exact trivial | omega) (and_So (by first | exact rfl | assumption | exact trivial | omega) (bind_So fun y0 => br_So (fun h => h) (fun h => h)))) (br_So (and_So (by first | exact rfl | assumption | exact trivial | omega) (and_So (by first | exact rfl | assumption | exact trivial | omega) (bind_So fun y1 => br_So (fun h => h) (fun h => h)))) (br_So (and_So (by first | exact rfl | assumption | exact trivial | omega) (and_So (by first | exact rfl | assumption | exact trivial | omega) (bind_So fun y2 => br_So (fun h => h) (fun h => h)))) (br_So (and_So (by first | exact rfl | assumption | exact trivial | omega) (and_So (by first | exact rfl | assumption | exact trivial | omega) (bind_So fun y3 => br_So (fun h => h) (fun h => h)))) (br_So (and_So (by first | exact rfl | assumption | exact trivial | omega) (and_So (by first | exact rfl | assumption | exact trivial | omega) (bind_So fun y4 => fun h => h))) (and_So (by first | exact rfl | assumption | exact trivial | omega) (and_So (by first | exact rfl | assumption | exact trivial | omega) (bind_So fun y5 => fun h => h)))))))

theorem ok_law08_told : SpecOK Try.prog elTT 19 (sp_law08_told m_law08_told) := by
  refine spec_of_exF (cfg := (cfg_law08_told m_ref08_Turn m_ref08_Mapped m_ref08_Covers m_ref08_Ensure m_ref08_Count)) (cfg_ok rfl rfl rfl) (sig_cons ok_ref08_Turn (sig_cons ok_ref08_Mapped (sig_cons ok_ref08_Covers (sig_cons ok_ref08_Ensure (sig_cons ok_ref08_Count sig_nil))))) (fn := Try.f19) (by kernel_rfl) (by kernel_rfl) (by kernel_rfl) ?_
  intro args H K h
  change tr_law08_told m_law08_told args H K at h
  unfold tr_law08_told at h
  replace h := aC_el h
  obtain ⟨a0, _, rfl, h⟩ := h
  replace h := aC_el h
  obtain ⟨a1, _, rfl, h⟩ := h
  replace h := aC_el h
  obtain ⟨a2, _, rfl, h⟩ := h
  replace h := aN_el h
  obtain ⟨rfl, h⟩ := h
  replace h := aAgg_el h
  obtain ⟨c0, rfl, h⟩ := h
  replace h := d_assartref02_Layout_el h
  obtain ⟨r_, rfl, h⟩ := h
  replace h := aRow_el h
  obtain ⟨rfl, h⟩ := h
  replace h := aAgg_el h
  obtain ⟨c2, rfl, h⟩ := h
  replace h := d_assartlaw08_Act_el h
  obtain ⟨a, rfl, h⟩ := h
  replace h := aC_el h
  obtain ⟨b0, _, rfl, h⟩ := h
  replace h := aN_el h
  obtain ⟨rfl, h⟩ := h
  replace h := bRow_el h
  obtain ⟨(w : List Int), rfl, h⟩ := h
  refine Eq.mpr (nf_law08_told m_ref08_Turn m_ref08_Mapped m_ref08_Covers m_ref08_Ensure m_ref08_Count r_ a w K) ?_
  unfold m_law08_told at h
  revert h
  exact br_So (bind_So fun y0 => br_So (fun h => h) (fun h => h)) (br_So (bind_So fun y1 => br_So (fun h => h) (fun h => h)) (br_So (bind_So fun y2 => br_So (fun h => h) (fun h => h)) (br_So (bind_So fun y3 => br_So (fun h => h) (fun h => h)) (br_So (bind_So fun y4 => fun h => h) (bind_So fun y5 => fun h => h)))))

end Go.Rx
end

section
/- Contracts. -/
namespace Go.Rx
open Go.Proofs
set_option maxRecDepth 100000
set_option maxHeartbeats 4000000
/-! assart/assartlaw08.ChunkPlays$1 -/
def tr_law08_ChunkPlays_1 (m_ : Nat → (List Int) → T_layout_Layout → Int → Int → (List (List Int)) → Option ((List Int) × Int)) (args : List V) (H : Heap) (K : V → Heap → Prop) : Prop :=
  aC args fun a0 r => aC r fun a1 r => aC r fun a2 r => aC r fun a3 r => aC r fun a4 r => aN r <| aPtr 0 a0 <| aPtr 1 a1 <| aPtr 2 a2 <| aPtr 3 a3 <| aPtr 4 a4 <| aC H fun b0 r => aC r fun b1 r => aC r fun b2 r => aC r fun b3 r => aC r fun b4 r => aC r fun b5 r => aC r fun b6 r => aN r <| bView 5 b0 fun ws cur xs => bCells b1 fun U c1 => d_layout_Layout c1 fun l2 => bCells b2 fun U2 c2 => aC c2 fun d2_0 r => aRow 6 d2_0 <| aN r <| bCells b3 fun U3 c3 => aC c3 fun d3_0 r => aInt d3_0 fun i_ => aN r <| bCells b4 fun U4 c4 => aC c4 fun d4_0 r => aInt d4_0 fun x_ => aN r <| bRow 0 true b5 fun (l : List Int) => bRow 6 true b6 fun (acts : List (List Int)) => ws = l ∧ xs.length ≤ 2 ∧ So (m_ (ws.length) cur l2 i_ x_ acts) fun x => K (.tup []) [.pk 0 [ws, x.1] xs [.row 5], .cells U (e_layout_Layout l2), .cells U2 [.row 6], .cells U3 [vi i_], .cells U4 [vi (x.2)], .row 0 l true, .row 6 acts true]
def sp_law08_ChunkPlays_1 (m_ : Nat → (List Int) → T_layout_Layout → Int → Int → (List (List Int)) → Option ((List Int) × Int)) : Spec := ⟨tr_law08_ChunkPlays_1 m_, false⟩

/-! assart/assartlaw08.ChunkCounted$1 -/
def tr_law08_ChunkCounted_1 (m_ : Nat → (List Int) → Bool → T_layout_Layout → Int → Int → (List (List Int)) → Option ((List Int) × Bool)) (args : List V) (H : Heap) (K : V → Heap → Prop) : Prop :=
  aC args fun a0 r => aC r fun a1 r => aC r fun a2 r => aC r fun a3 r => aC r fun a4 r => aC r fun a5 r => aN r <| aPtr 0 a0 <| aPtr 1 a1 <| aPtr 2 a2 <| aPtr 3 a3 <| aPtr 4 a4 <| aPtr 5 a5 <| aC H fun b0 r => aC r fun b1 r => aC r fun b2 r => aC r fun b3 r => aC r fun b4 r => aC r fun b5 r => aC r fun b6 r => aC r fun b7 r => aN r <| bView 6 b0 fun ws cur xs => bCells b1 fun U c1 => aC c1 fun d1_0 r => aBool d1_0 fun right => aN r <| bCells b2 fun U2 c2 => aC c2 fun d2_0 r => aRow 7 d2_0 <| aN r <| bCells b3 fun U3 c3 => d_layout_Layout c3 fun l2 => bCells b4 fun U4 c4 => aC c4 fun d4_0 r => aInt d4_0 fun p => aN r <| bCells b5 fun U5 c5 => aC c5 fun d5_0 r => aInt d5_0 fun n => aN r <| bRow 0 true b6 fun (l : List Int) => bRow 6 true b7 fun (acts : List (List Int)) => ws = l ∧ xs.length ≤ 2 ∧ So (m_ (ws.length) cur right l2 p n acts) fun x => K (.tup []) [.pk 0 [ws, x.1] xs [.row 6], .cells U [vb (x.2)], .cells U2 [.row 7], .cells U3 (e_layout_Layout l2), .cells U4 [vi p], .cells U5 [vi n], .row 0 l true, .row 6 acts true]
def sp_law08_ChunkCounted_1 (m_ : Nat → (List Int) → Bool → T_layout_Layout → Int → Int → (List (List Int)) → Option ((List Int) × Bool)) : Spec := ⟨tr_law08_ChunkCounted_1 m_, false⟩

/-! assart/assartlaw08.ChunkOnly$1 -/
def tr_law08_ChunkOnly_1 (m_ : Nat → (List Int) → T_layout_Layout → T_assartlaw08_Act → Option ((List Int))) (args : List V) (H : Heap) (K : V → Heap → Prop) : Prop :=
  aC args fun a0 r => aC r fun a1 r => aC r fun a2 r => aN r <| aPtr 0 a0 <| aPtr 1 a1 <| aPtr 2 a2 <| aC H fun b0 r => aC r fun b1 r => aC r fun b2 r => aC r fun b3 r => aN r <| bView 3 b0 fun ws cur xs => bCells b1 fun U c1 => d_layout_Layout c1 fun l2 => bCells b2 fun U2 c2 => d_assartlaw08_Act c2 fun a => bRow 0 true b3 fun (l : List Int) => ws = l ∧ xs.length ≤ 2 ∧ So (m_ (ws.length) cur l2 a) fun x => K (.tup []) [.pk 0 [ws, x] xs [.row 3], .cells U (e_layout_Layout l2), .cells U2 (e_assartlaw08_Act a), .row 0 l true]
def sp_law08_ChunkOnly_1 (m_ : Nat → (List Int) → T_layout_Layout → T_assartlaw08_Act → Option ((List Int))) : Spec := ⟨tr_law08_ChunkOnly_1 m_, false⟩

/-! assart/assartlaw08.lives$1 -/
def tr_law08_lives_1 (m_ : Nat → (List Int) → T_layout_Layout → Int → Option ((List Int) × Int)) (args : List V) (H : Heap) (K : V → Heap → Prop) : Prop :=
  aC args fun a0 r => aC r fun a1 r => aC r fun a2 r => aN r <| aPtr 0 a0 <| aPtr 1 a1 <| aPtr 2 a2 <| aC H fun b0 r => aC r fun b1 r => aC r fun b2 r => aC r fun b3 r => aN r <| bView 3 b0 fun ws cur xs => bCells b1 fun U c1 => d_layout_Layout c1 fun l2 => bCells b2 fun U2 c2 => aC c2 fun d2_0 r => aInt d2_0 fun n => aN r <| bRow 0 true b3 fun (l : List Int) => ws = l ∧ xs.length ≤ 2 ∧ So (m_ (ws.length) cur l2 n) fun x => K (.tup []) [.pk 0 [ws, x.1] xs [.row 3], .cells U (e_layout_Layout l2), .cells U2 [vi (x.2)], .row 0 l true]
def sp_law08_lives_1 (m_ : Nat → (List Int) → T_layout_Layout → Int → Option ((List Int) × Int)) : Spec := ⟨tr_law08_lives_1 m_, false⟩

noncomputable def cfg_law08_ChunkPlays_1 (m_law08_done : Nat → (List Int) → T_layout_Layout → T_assartlaw08_Act → Option (Int × (List Int))) : Cfg := { cfgB with
  sigs := (sigC 18 (sp_law08_done m_law08_done) sigN),
  plan := fun r => match r with | 0 => some (List.range 8, 2) | _ => none }

noncomputable def cfg_law08_ChunkCounted_1 (m_chunk_Count : Nat → (List Int) → T_layout_Layout → Option (Int)) (m_chunk_Pages : T_layout_Layout → Int → Option (Int × Int)) (m_chunk_Map : Nat → (List Int) → T_layout_Layout → Int → Option (Bool × (List Int))) (m_chunk_Unmap : Nat → (List Int) → T_layout_Layout → Int → Option (Bool × (List Int))) (m_chunk_Ensure : Nat → (List Int) → T_layout_Layout → Int → Int → Option (Int × (List Int))) (m_layout_Layout_Config : T_layout_Layout → Option (T_api_Config)) (m_chunk_Covers : Nat → (List Int) → T_layout_Layout → Int → Int → Option (Bool)) : Cfg := { cfgB with
  sigs := (sigC 22 (sp_chunk_Count m_chunk_Count) (sigC 23 (sp_chunk_Pages m_chunk_Pages) (sigC 24 (sp_chunk_Map m_chunk_Map) (sigC 25 (sp_chunk_Unmap m_chunk_Unmap) (sigC 26 (sp_chunk_Ensure m_chunk_Ensure) (sigC 27 (sp_layout_Layout_Config m_layout_Layout_Config) (sigC 28 (sp_chunk_Covers m_chunk_Covers) sigN))))))),
  keep := fun r => match r with | 2 => some [(0, none), (1, none), (2, none), (3, none), (4, none), (5, none), (7, none)] | _ => none,
  plan := fun r => match r with | 5 => some (List.range 12, 2) | 10 => some (List.range 8, 2) | 13 => some (List.range 8, 2) | 8 => some (List.range 14, 2) | 17 => some ([0, 1, 2, 3, 4, 5, 6, 7, 8, 9, 10, 11, 12, 13, 14, 15, 18, 16, 17, 19, 20, 21, 22], 0) | _ => none }

noncomputable def cfg_law08_ChunkOnly_1 (m_law08_done : Nat → (List Int) → T_layout_Layout → T_assartlaw08_Act → Option (Int × (List Int))) : Cfg := { cfgB with
  sigs := (sigC 18 (sp_law08_done m_law08_done) sigN) }

noncomputable def cfg_law08_lives_1 (m_chunk_Ensure : Nat → (List Int) → T_layout_Layout → Int → Int → Option (Int × (List Int))) : Cfg := { cfgB with
  sigs := (sigC 26 (sp_chunk_Ensure m_chunk_Ensure) sigN) }

theorem nf_law08_ChunkPlays_1 (m_law08_done : Nat → (List Int) → T_layout_Layout → T_assartlaw08_Act → Option (Int × (List Int))) (ws : List Int) (cur : List Int) (xs : List Value) (l2 : T_layout_Layout) (i_ : Int) (x_ : Int) (acts : List (List Int)) (U : TypeId) (U2 : TypeId) (U3 : TypeId) (U4 : TypeId) (K : V → Heap → Prop) : (exF (cfg_law08_ChunkPlays_1 m_law08_done) Try.f17 [.ptr 0 0, .ptr 1 0, .ptr 2 0, .ptr 3 0, .ptr 4 0] [.pk 0 [ws, cur] xs [.row 5], .cells U (e_layout_Layout l2), .cells U2 [.row 6], .cells U3 [vi i_], .cells U4 [vi x_], .row 0 ws true, .row 6 acts true] K) = (
    Req (inR i_ (List.length acts)) (Req (inR (offs i_ 0) (List.length acts)) (((ws = ws) ∧ (((List.length xs ≤ 2) ∧ (So (m_law08_done (List.length ws) cur l2 (T_assartlaw08_Act.mk (List.getD (List.getD acts (Int.toNat (offs i_ (0 : Nat))) (List.replicate (3 : Nat) (0 : Int))) (0 : Nat) (0 : Int)) (List.getD (List.getD acts (Int.toNat (offs i_ (0 : Nat))) (List.replicate (3 : Nat) (0 : Int))) (1 : Nat) (0 : Int)) (List.getD (List.getD acts (Int.toNat (offs i_ (0 : Nat))) (List.replicate (3 : Nat) (0 : Int))) (2 : Nat) (0 : Int)))) (fun (y0 : Int × List Int) => (K (.tup []) [.pk 0 [ws, Prod.snd y0] (xs) [.row 5], .cells U (e_layout_Layout l2), .cells U2 [.row 6], .cells U3 [vi (i_)], .cells U4 [vi (Prod.fst y0)], .row 0 (ws : List (Int)) Bool.true, .row 6 (acts : List (List Int)) Bool.true]))))))))) := by
  kernel_rfl

theorem nf_law08_ChunkCounted_1_L1 (m_chunk_Count : Nat → (List Int) → T_layout_Layout → Option (Int)) (m_chunk_Pages : T_layout_Layout → Int → Option (Int × Int)) (m_chunk_Map : Nat → (List Int) → T_layout_Layout → Int → Option (Bool × (List Int))) (m_chunk_Unmap : Nat → (List Int) → T_layout_Layout → Int → Option (Bool × (List Int))) (m_chunk_Ensure : Nat → (List Int) → T_layout_Layout → Int → Int → Option (Int × (List Int))) (m_layout_Layout_Config : T_layout_Layout → Option (T_api_Config)) (m_chunk_Covers : Nat → (List Int) → T_layout_Layout → Int → Int → Option (Bool)) (ws : List Int) (cur : List Int) (xs : List Value) (right : Bool) (l2 : T_layout_Layout) (p : Int) (n : Int) (acts : List (List Int)) (U : TypeId) (U2 : TypeId) (U3 : TypeId) (U4 : TypeId) (U5 : TypeId) (i_ : Int) (cur2 : List Int) (c : Bool) (K : V → Heap → Prop) (J1 : Env → Heap → Prop) : (ex (cfg_law08_ChunkCounted_1 m_chunk_Count m_chunk_Pages m_chunk_Map m_chunk_Unmap m_chunk_Ensure m_layout_Layout_Config m_chunk_Covers) (⟨128, 8⟩ : Cx) (at_ (bodyOf Try.f21) [1, 0, 1, 0, 0]) (mkEnv [(0, .ptr 0 0), (1, .ptr 1 0), (2, .ptr 2 0), (3, .ptr 3 0), (4, .ptr 4 0), (5, .ptr 5 0), (7, vi (i_))]) [.pk 0 [ws, cur2] (xs) [.row 6], .cells U [vb (c)], .cells U2 [.row 7], .cells U3 (e_layout_Layout l2), .cells U4 [vi (p)], .cells U5 [vi (n)], .row 0 (ws : List (Int)) Bool.true, .row 6 (acts : List (List Int)) Bool.true] (roundK (cfg_law08_ChunkCounted_1 m_chunk_Count m_chunk_Pages m_chunk_Map m_chunk_Unmap m_chunk_Ensure m_layout_Layout_Config m_chunk_Covers) (⟨128, 8⟩ : Cx) (at_ (bodyOf Try.f21) [1, 0, 1, 0, 0]) (contK (cfg_law08_ChunkCounted_1 m_chunk_Count m_chunk_Pages m_chunk_Map m_chunk_Unmap m_chunk_Ensure m_layout_Layout_Config m_chunk_Covers) (⟨128, 8⟩ : Cx) (bodyOf Try.f21) [1, 0, 1, 0] (retK (cfg_law08_ChunkCounted_1 m_chunk_Count m_chunk_Pages m_chunk_Map m_chunk_Unmap m_chunk_Ensure m_layout_Layout_Config m_chunk_Covers) Try.f21 8 K)) J1)) = (
    br (Decidable.decide (i_ < (↑(List.length acts) : Int))) (((ws = ws) ∧ (((List.length xs ≤ 2) ∧ (So (m_chunk_Count (List.length ws) cur2 l2) (fun (y0 : Int) => (Req (inR i_ (List.length acts)) (Req (inR (offs i_ 0) (List.length acts)) (So (m_chunk_Pages l2 (List.getD (List.getD acts (Int.toNat (offs i_ (0 : Nat))) (List.replicate (3 : Nat) (0 : Int))) (1 : Nat) (0 : Int))) (fun (y1 : Int × Int) => (Req (inR i_ (List.length acts)) (Req (inR (offs i_ 0) (List.length acts)) (br (List.getD (List.getD acts (Int.toNat (offs i_ (0 : Nat))) (List.replicate (3 : Nat) (0 : Int))) (0 : Nat) (0 : Int) == (0 : Int)) (Req (inR i_ (List.length acts)) (Req (inR (offs i_ 0) (List.length acts)) (((ws = ws) ∧ (((List.length xs ≤ 2) ∧ (So (m_chunk_Map (List.length ws) cur2 l2 (List.getD (List.getD acts (Int.toNat (offs i_ (0 : Nat))) (List.replicate (3 : Nat) (0 : Int))) (1 : Nat) (0 : Int))) (fun (y2 : Bool × List Int) => (br (Prod.fst y2) (br (c) (((ws = ws) ∧ (((List.length xs ≤ 2) ∧ (So (m_chunk_Count (List.length ws) (Prod.snd y2) l2) (fun (y3 : Int) => (J1 (mkEnv [(0, .ptr 0 0), (1, .ptr 1 0), (2, .ptr 2 0), (3, .ptr 3 0), (4, .ptr 4 0), (5, .ptr 5 0), (7, vi (IntKind.wrap IntKind.i64 (i_ + 1)))]) [.pk 0 [ws, Prod.snd y2] (xs) [.row 6], .cells U [vb (y3 == IntKind.wrap IntKind.i64 (y0 + Prod.snd y1))], .cells U2 [.row 7], .cells U3 (e_layout_Layout l2), .cells U4 [vi (p)], .cells U5 [vi (n)], .row 0 (ws : List (Int)) Bool.true, .row 6 (acts : List (List Int)) Bool.true]))))))) (J1 (mkEnv [(0, .ptr 0 0), (1, .ptr 1 0), (2, .ptr 2 0), (3, .ptr 3 0), (4, .ptr 4 0), (5, .ptr 5 0), (7, vi (IntKind.wrap IntKind.i64 (i_ + 1)))]) [.pk 0 [ws, Prod.snd y2] (xs) [.row 6], .cells U [vb (Bool.false)], .cells U2 [.row 7], .cells U3 (e_layout_Layout l2), .cells U4 [vi (p)], .cells U5 [vi (n)], .row 0 (ws : List (Int)) Bool.true, .row 6 (acts : List (List Int)) Bool.true])) (br (c) (((ws = ws) ∧ (((List.length xs ≤ 2) ∧ (So (m_chunk_Count (List.length ws) (Prod.snd y2) l2) (fun (y4 : Int) => (J1 (mkEnv [(0, .ptr 0 0), (1, .ptr 1 0), (2, .ptr 2 0), (3, .ptr 3 0), (4, .ptr 4 0), (5, .ptr 5 0), (7, vi (IntKind.wrap IntKind.i64 (i_ + 1)))]) [.pk 0 [ws, Prod.snd y2] (xs) [.row 6], .cells U [vb (y4 == IntKind.wrap IntKind.i64 (y0 + 0))], .cells U2 [.row 7], .cells U3 (e_layout_Layout l2), .cells U4 [vi (p)], .cells U5 [vi (n)], .row 0 (ws : List (Int)) Bool.true, .row 6 (acts : List (List Int)) Bool.true]))))))) (J1 (mkEnv [(0, .ptr 0 0), (1, .ptr 1 0), (2, .ptr 2 0), (3, .ptr 3 0), (4, .ptr 4 0), (5, .ptr 5 0), (7, vi (IntKind.wrap IntKind.i64 (i_ + 1)))]) [.pk 0 [ws, Prod.snd y2] (xs) [.row 6], .cells U [vb (Bool.false)], .cells U2 [.row 7], .cells U3 (e_layout_Layout l2), .cells U4 [vi (p)], .cells U5 [vi (n)], .row 0 (ws : List (Int)) Bool.true, .row 6 (acts : List (List Int)) Bool.true]))))))))))) (br (List.getD (List.getD acts (Int.toNat (offs i_ (0 : Nat))) (List.replicate (3 : Nat) (0 : Int))) (0 : Nat) (0 : Int) == (1 : Int)) (Req (inR i_ (List.length acts)) (Req (inR (offs i_ 0) (List.length acts)) (((ws = ws) ∧ (((List.length xs ≤ 2) ∧ (So (m_chunk_Unmap (List.length ws) cur2 l2 (List.getD (List.getD acts (Int.toNat (offs i_ (0 : Nat))) (List.replicate (3 : Nat) (0 : Int))) (1 : Nat) (0 : Int))) (fun (y5 : Bool × List Int) => (br (Prod.fst y5) (br (c) (((ws = ws) ∧ (((List.length xs ≤ 2) ∧ (So (m_chunk_Count (List.length ws) (Prod.snd y5) l2) (fun (y6 : Int) => (J1 (mkEnv [(0, .ptr 0 0), (1, .ptr 1 0), (2, .ptr 2 0), (3, .ptr 3 0), (4, .ptr 4 0), (5, .ptr 5 0), (7, vi (IntKind.wrap IntKind.i64 (i_ + 1)))]) [.pk 0 [ws, Prod.snd y5] (xs) [.row 6], .cells U [vb (y6 == IntKind.wrap IntKind.i64 (y0 + IntKind.wrap IntKind.i64 (0 - Prod.snd y1)))], .cells U2 [.row 7], .cells U3 (e_layout_Layout l2), .cells U4 [vi (p)], .cells U5 [vi (n)], .row 0 (ws : List (Int)) Bool.true, .row 6 (acts : List (List Int)) Bool.true]))))))) (J1 (mkEnv [(0, .ptr 0 0), (1, .ptr 1 0), (2, .ptr 2 0), (3, .ptr 3 0), (4, .ptr 4 0), (5, .ptr 5 0), (7, vi (IntKind.wrap IntKind.i64 (i_ + 1)))]) [.pk 0 [ws, Prod.snd y5] (xs) [.row 6], .cells U [vb (Bool.false)], .cells U2 [.row 7], .cells U3 (e_layout_Layout l2), .cells U4 [vi (p)], .cells U5 [vi (n)], .row 0 (ws : List (Int)) Bool.true, .row 6 (acts : List (List Int)) Bool.true])) (br (c) (((ws = ws) ∧ (((List.length xs ≤ 2) ∧ (So (m_chunk_Count (List.length ws) (Prod.snd y5) l2) (fun (y7 : Int) => (J1 (mkEnv [(0, .ptr 0 0), (1, .ptr 1 0), (2, .ptr 2 0), (3, .ptr 3 0), (4, .ptr 4 0), (5, .ptr 5 0), (7, vi (IntKind.wrap IntKind.i64 (i_ + 1)))]) [.pk 0 [ws, Prod.snd y5] (xs) [.row 6], .cells U [vb (y7 == IntKind.wrap IntKind.i64 (y0 + 0))], .cells U2 [.row 7], .cells U3 (e_layout_Layout l2), .cells U4 [vi (p)], .cells U5 [vi (n)], .row 0 (ws : List (Int)) Bool.true, .row 6 (acts : List (List Int)) Bool.true]))))))) (J1 (mkEnv [(0, .ptr 0 0), (1, .ptr 1 0), (2, .ptr 2 0), (3, .ptr 3 0), (4, .ptr 4 0), (5, .ptr 5 0), (7, vi (IntKind.wrap IntKind.i64 (i_ + 1)))]) [.pk 0 [ws, Prod.snd y5] (xs) [.row 6], .cells U [vb (Bool.false)], .cells U2 [.row 7], .cells U3 (e_layout_Layout l2), .cells U4 [vi (p)], .cells U5 [vi (n)], .row 0 (ws : List (Int)) Bool.true, .row 6 (acts : List (List Int)) Bool.true]))))))))))) (Req (inR i_ (List.length acts)) (Req (inR (offs i_ 0) (List.length acts)) (Req (inR i_ (List.length acts)) (Req (inR (offs i_ 0) (List.length acts)) (((ws = ws) ∧ (((List.length xs ≤ 2) ∧ (So (m_chunk_Ensure (List.length ws) cur2 l2 (List.getD (List.getD acts (Int.toNat (offs i_ (0 : Nat))) (List.replicate (3 : Nat) (0 : Int))) (1 : Nat) (0 : Int)) (List.getD (List.getD acts (Int.toNat (offs i_ (0 : Nat))) (List.replicate (3 : Nat) (0 : Int))) (2 : Nat) (0 : Int))) (fun (y8 : Int × List Int) => (br (c) (((ws = ws) ∧ (((List.length xs ≤ 2) ∧ (So (m_chunk_Count (List.length ws) (Prod.snd y8) l2) (fun (y9 : Int) => (J1 (mkEnv [(0, .ptr 0 0), (1, .ptr 1 0), (2, .ptr 2 0), (3, .ptr 3 0), (4, .ptr 4 0), (5, .ptr 5 0), (7, vi (IntKind.wrap IntKind.i64 (i_ + 1)))]) [.pk 0 [ws, Prod.snd y8] (xs) [.row 6], .cells U [vb (y9 == IntKind.wrap IntKind.i64 (y0 + Prod.fst y8))], .cells U2 [.row 7], .cells U3 (e_layout_Layout l2), .cells U4 [vi (p)], .cells U5 [vi (n)], .row 0 (ws : List (Int)) Bool.true, .row 6 (acts : List (List Int)) Bool.true]))))))) (J1 (mkEnv [(0, .ptr 0 0), (1, .ptr 1 0), (2, .ptr 2 0), (3, .ptr 3 0), (4, .ptr 4 0), (5, .ptr 5 0), (7, vi (IntKind.wrap IntKind.i64 (i_ + 1)))]) [.pk 0 [ws, Prod.snd y8] (xs) [.row 6], .cells U [vb (Bool.false)], .cells U2 [.row 7], .cells U3 (e_layout_Layout l2), .cells U4 [vi (p)], .cells U5 [vi (n)], .row 0 (ws : List (Int)) Bool.true, .row 6 (acts : List (List Int)) Bool.true])))))))))))))))))))))))))) (((ws = ws) ∧ (((List.length xs ≤ 2) ∧ (So (m_chunk_Ensure (List.length ws) cur2 l2 p n) (fun (y10 : Int × List Int) => (br (Decidable.decide (p ≥ 0)) (br (Decidable.decide (n ≥ 1)) (So (m_layout_Layout_Config l2) (fun (y11 : T_api_Config) => (br (Decidable.decide (p < T_api_Config.Pages y11)) (So (m_layout_Layout_Config l2) (fun (y12 : T_api_Config) => (br (c) (((ws = ws) ∧ (((List.length xs ≤ 2) ∧ (So (m_chunk_Covers (List.length ws) (Prod.snd y10) l2 p n) (fun (y13 : Bool) => (br (y13 == Decidable.decide (n ≤ IntKind.wrap IntKind.i64 (T_api_Config.Pages y12 - p))) (((ws = ws) ∧ (((List.length xs ≤ 2) ∧ (So (m_chunk_Ensure (List.length ws) (Prod.snd y10) l2 p n) (fun (y14 : Int × List Int) => (K (.tup []) [.pk 0 [ws, Prod.snd y14] (xs) [.row 6], .cells U [vb (Prod.fst y14 == 0)], .cells U2 [.row 7], .cells U3 (e_layout_Layout l2), .cells U4 [vi (p)], .cells U5 [vi (n)], .row 0 (ws : List (Int)) Bool.true, .row 6 (acts : List (List Int)) Bool.true]))))))) (K (.tup []) [.pk 0 [ws, Prod.snd y10] (xs) [.row 6], .cells U [vb (Bool.false)], .cells U2 [.row 7], .cells U3 (e_layout_Layout l2), .cells U4 [vi (p)], .cells U5 [vi (n)], .row 0 (ws : List (Int)) Bool.true, .row 6 (acts : List (List Int)) Bool.true])))))))) (K (.tup []) [.pk 0 [ws, Prod.snd y10] (xs) [.row 6], .cells U [vb (Bool.false)], .cells U2 [.row 7], .cells U3 (e_layout_Layout l2), .cells U4 [vi (p)], .cells U5 [vi (n)], .row 0 (ws : List (Int)) Bool.true, .row 6 (acts : List (List Int)) Bool.true])))) (br (c) (((ws = ws) ∧ (((List.length xs ≤ 2) ∧ (So (m_chunk_Covers (List.length ws) (Prod.snd y10) l2 p n) (fun (y15 : Bool) => (br (y15 == Bool.false) (((ws = ws) ∧ (((List.length xs ≤ 2) ∧ (So (m_chunk_Ensure (List.length ws) (Prod.snd y10) l2 p n) (fun (y16 : Int × List Int) => (K (.tup []) [.pk 0 [ws, Prod.snd y16] (xs) [.row 6], .cells U [vb (Prod.fst y16 == 0)], .cells U2 [.row 7], .cells U3 (e_layout_Layout l2), .cells U4 [vi (p)], .cells U5 [vi (n)], .row 0 (ws : List (Int)) Bool.true, .row 6 (acts : List (List Int)) Bool.true]))))))) (K (.tup []) [.pk 0 [ws, Prod.snd y10] (xs) [.row 6], .cells U [vb (Bool.false)], .cells U2 [.row 7], .cells U3 (e_layout_Layout l2), .cells U4 [vi (p)], .cells U5 [vi (n)], .row 0 (ws : List (Int)) Bool.true, .row 6 (acts : List (List Int)) Bool.true])))))))) (K (.tup []) [.pk 0 [ws, Prod.snd y10] (xs) [.row 6], .cells U [vb (Bool.false)], .cells U2 [.row 7], .cells U3 (e_layout_Layout l2), .cells U4 [vi (p)], .cells U5 [vi (n)], .row 0 (ws : List (Int)) Bool.true, .row 6 (acts : List (List Int)) Bool.true]))))) (br (c) (((ws = ws) ∧ (((List.length xs ≤ 2) ∧ (So (m_chunk_Covers (List.length ws) (Prod.snd y10) l2 p n) (fun (y17 : Bool) => (br (y17 == Bool.false) (((ws = ws) ∧ (((List.length xs ≤ 2) ∧ (So (m_chunk_Ensure (List.length ws) (Prod.snd y10) l2 p n) (fun (y18 : Int × List Int) => (K (.tup []) [.pk 0 [ws, Prod.snd y18] (xs) [.row 6], .cells U [vb (Prod.fst y18 == 0)], .cells U2 [.row 7], .cells U3 (e_layout_Layout l2), .cells U4 [vi (p)], .cells U5 [vi (n)], .row 0 (ws : List (Int)) Bool.true, .row 6 (acts : List (List Int)) Bool.true]))))))) (K (.tup []) [.pk 0 [ws, Prod.snd y10] (xs) [.row 6], .cells U [vb (Bool.false)], .cells U2 [.row 7], .cells U3 (e_layout_Layout l2), .cells U4 [vi (p)], .cells U5 [vi (n)], .row 0 (ws : List (Int)) Bool.true, .row 6 (acts : List (List Int)) Bool.true])))))))) (K (.tup []) [.pk 0 [ws, Prod.snd y10] (xs) [.row 6], .cells U [vb (Bool.false)], .cells U2 [.row 7], .cells U3 (e_layout_Layout l2), .cells U4 [vi (p)], .cells U5 [vi (n)], .row 0 (ws : List (Int)) Bool.true, .row 6 (acts : List (List Int)) Bool.true]))) (br (c) (((ws = ws) ∧ (((List.length xs ≤ 2) ∧ (So (m_chunk_Covers (List.length ws) (Prod.snd y10) l2 p n) (fun (y19 : Bool) => (br (y19 == Bool.false) (((ws = ws) ∧ (((List.length xs ≤ 2) ∧ (So (m_chunk_Ensure (List.length ws) (Prod.snd y10) l2 p n) (fun (y20 : Int × List Int) => (K (.tup []) [.pk 0 [ws, Prod.snd y20] (xs) [.row 6], .cells U [vb (Prod.fst y20 == 0)], .cells U2 [.row 7], .cells U3 (e_layout_Layout l2), .cells U4 [vi (p)], .cells U5 [vi (n)], .row 0 (ws : List (Int)) Bool.true, .row 6 (acts : List (List Int)) Bool.true]))))))) (K (.tup []) [.pk 0 [ws, Prod.snd y10] (xs) [.row 6], .cells U [vb (Bool.false)], .cells U2 [.row 7], .cells U3 (e_layout_Layout l2), .cells U4 [vi (p)], .cells U5 [vi (n)], .row 0 (ws : List (Int)) Bool.true, .row 6 (acts : List (List Int)) Bool.true])))))))) (K (.tup []) [.pk 0 [ws, Prod.snd y10] (xs) [.row 6], .cells U [vb (Bool.false)], .cells U2 [.row 7], .cells U3 (e_layout_Layout l2), .cells U4 [vi (p)], .cells U5 [vi (n)], .row 0 (ws : List (Int)) Bool.true, .row 6 (acts : List (List Int)) Bool.true])))))))))) := by
  kernel_rfl

theorem nf_law08_ChunkCounted_1 (m_chunk_Count : Nat → (List Int) → T_layout_Layout → Option (Int)) (m_chunk_Pages : T_layout_Layout → Int → Option (Int × Int)) (m_chunk_Map : Nat → (List Int) → T_layout_Layout → Int → Option (Bool × (List Int))) (m_chunk_Unmap : Nat → (List Int) → T_layout_Layout → Int → Option (Bool × (List Int))) (m_chunk_Ensure : Nat → (List Int) → T_layout_Layout → Int → Int → Option (Int × (List Int))) (m_layout_Layout_Config : T_layout_Layout → Option (T_api_Config)) (m_chunk_Covers : Nat → (List Int) → T_layout_Layout → Int → Int → Option (Bool)) (ws : List Int) (cur : List Int) (xs : List Value) (right : Bool) (l2 : T_layout_Layout) (p : Int) (n : Int) (acts : List (List Int)) (U : TypeId) (U2 : TypeId) (U3 : TypeId) (U4 : TypeId) (U5 : TypeId) (K : V → Heap → Prop) : (exF (cfg_law08_ChunkCounted_1 m_chunk_Count m_chunk_Pages m_chunk_Map m_chunk_Unmap m_chunk_Ensure m_layout_Layout_Config m_chunk_Covers) Try.f21 [.ptr 0 0, .ptr 1 0, .ptr 2 0, .ptr 3 0, .ptr 4 0, .ptr 5 0] [.pk 0 [ws, cur] xs [.row 6], .cells U [vb right], .cells U2 [.row 7], .cells U3 (e_layout_Layout l2), .cells U4 [vi p], .cells U5 [vi n], .row 0 ws true, .row 6 acts true] K) = (
    Loop (cfg_law08_ChunkCounted_1 m_chunk_Count m_chunk_Pages m_chunk_Map m_chunk_Unmap m_chunk_Ensure m_layout_Layout_Config m_chunk_Covers) (⟨128, 8⟩ : Cx) (at_ (bodyOf Try.f21) [1, 0, 1, 0, 0]) (mkEnv [(0, .ptr 0 0), (1, .ptr 1 0), (2, .ptr 2 0), (3, .ptr 3 0), (4, .ptr 4 0), (5, .ptr 5 0), (7, vi (0))]) [.pk 0 [ws, cur] (xs) [.row 6], .cells U [vb (Bool.true)], .cells U2 [.row 7], .cells U3 (e_layout_Layout l2), .cells U4 [vi (p)], .cells U5 [vi (n)], .row 0 (ws : List (Int)) Bool.true, .row 6 (acts : List (List Int)) Bool.true] (contK (cfg_law08_ChunkCounted_1 m_chunk_Count m_chunk_Pages m_chunk_Map m_chunk_Unmap m_chunk_Ensure m_layout_Layout_Config m_chunk_Covers) (⟨128, 8⟩ : Cx) (bodyOf Try.f21) [1, 0, 1, 0] (retK (cfg_law08_ChunkCounted_1 m_chunk_Count m_chunk_Pages m_chunk_Map m_chunk_Unmap m_chunk_Ensure m_layout_Layout_Config m_chunk_Covers) Try.f21 8 K))) := by
  kernel_rfl

theorem nf_law08_ChunkOnly_1 (m_law08_done : Nat → (List Int) → T_layout_Layout → T_assartlaw08_Act → Option (Int × (List Int))) (ws : List Int) (cur : List Int) (xs : List Value) (l2 : T_layout_Layout) (a : T_assartlaw08_Act) (U : TypeId) (U2 : TypeId) (K : V → Heap → Prop) : (exF (cfg_law08_ChunkOnly_1 m_law08_done) Try.f29 [.ptr 0 0, .ptr 1 0, .ptr 2 0] [.pk 0 [ws, cur] xs [.row 3], .cells U (e_layout_Layout l2), .cells U2 (e_assartlaw08_Act a), .row 0 ws true] K) = (
    ((ws = ws) ∧ (((List.length xs ≤ 2) ∧ (So (m_law08_done (List.length ws) cur l2 a) (fun (y0 : Int × List Int) => (K (.tup []) [.pk 0 [ws, Prod.snd y0] (xs) [.row 3], .cells U (e_layout_Layout l2), .cells U2 (e_assartlaw08_Act a), .row 0 (ws : List (Int)) Bool.true]))))))) := by
  kernel_rfl

theorem nf_law08_lives_1 (m_chunk_Ensure : Nat → (List Int) → T_layout_Layout → Int → Int → Option (Int × (List Int))) (ws : List Int) (cur : List Int) (xs : List Value) (l2 : T_layout_Layout) (n : Int) (U : TypeId) (U2 : TypeId) (K : V → Heap → Prop) : (exF (cfg_law08_lives_1 m_chunk_Ensure) Try.f70 [.ptr 0 0, .ptr 1 0, .ptr 2 0] [.pk 0 [ws, cur] xs [.row 3], .cells U (e_layout_Layout l2), .cells U2 [vi n], .row 0 ws true] K) = (
    ((ws = ws) ∧ (((List.length xs ≤ 2) ∧ (So (m_chunk_Ensure (List.length ws) cur l2 3 2) (fun (y0 : Int × List Int) => (K (.tup []) [.pk 0 [ws, Prod.snd y0] (xs) [.row 3], .cells U (e_layout_Layout l2), .cells U2 [vi (Prod.fst y0)], .row 0 (ws : List (Int)) Bool.true]))))))) := by
  kernel_rfl

noncomputable def m_law08_ChunkPlays_1 (nw : Nat) (cur : List Int) (l2 : T_layout_Layout) (i_ : Int) (x_ : Int) (acts : List (List Int)) : Option ((List Int) × Int) :=
  (bif (inR i_ (List.length acts)) then (bif (inR (offs i_ 0) (List.length acts)) then ((m_law08_done nw cur l2 (T_assartlaw08_Act.mk (List.getD (List.getD acts (Int.toNat (offs i_ (0 : Nat))) (List.replicate (3 : Nat) (0 : Int))) (0 : Nat) (0 : Int)) (List.getD (List.getD acts (Int.toNat (offs i_ (0 : Nat))) (List.replicate (3 : Nat) (0 : Int))) (1 : Nat) (0 : Int)) (List.getD (List.getD acts (Int.toNat (offs i_ (0 : Nat))) (List.replicate (3 : Nat) (0 : Int))) (2 : Nat) (0 : Int)))).bind fun y0 => some (((Prod.snd y0), (Prod.fst y0)))) else none) else none)

noncomputable def sb_law08_ChunkCounted_1_L1 (nw : Nat) (l2 : T_layout_Layout) (p : Int) (n : Int) (acts : List (List Int)) (i_ : Int) (cur2 : List Int) (c : Bool) : Option ((Int × (List Int) × Bool) ⊕ ((List Int) × Bool)) :=
  (bif (Decidable.decide (i_ < (↑(List.length acts) : Int))) then ((m_chunk_Count nw cur2 l2).bind fun y0 => (bif (inR i_ (List.length acts)) then (bif (inR (offs i_ 0) (List.length acts)) then ((m_chunk_Pages l2 (List.getD (List.getD acts (Int.toNat (offs i_ (0 : Nat))) (List.replicate (3 : Nat) (0 : Int))) (1 : Nat) (0 : Int))).bind fun y1 => (bif (inR i_ (List.length acts)) then (bif (inR (offs i_ 0) (List.length acts)) then (bif (List.getD (List.getD acts (Int.toNat (offs i_ (0 : Nat))) (List.replicate (3 : Nat) (0 : Int))) (0 : Nat) (0 : Int) == (0 : Int)) then (bif (inR i_ (List.length acts)) then (bif (inR (offs i_ 0) (List.length acts)) then ((m_chunk_Map nw cur2 l2 (List.getD (List.getD acts (Int.toNat (offs i_ (0 : Nat))) (List.replicate (3 : Nat) (0 : Int))) (1 : Nat) (0 : Int))).bind fun y2 => (bif (Prod.fst y2) then (bif (c) then ((m_chunk_Count nw (Prod.snd y2) l2).bind fun y3 => some (.inl ((IntKind.wrap IntKind.i64 (i_ + 1)), (Prod.snd y2), (y3 == IntKind.wrap IntKind.i64 (y0 + Prod.snd y1))))) else some (.inl ((IntKind.wrap IntKind.i64 (i_ + 1)), (Prod.snd y2), (Bool.false)))) else (bif (c) then ((m_chunk_Count nw (Prod.snd y2) l2).bind fun y4 => some (.inl ((IntKind.wrap IntKind.i64 (i_ + 1)), (Prod.snd y2), (y4 == IntKind.wrap IntKind.i64 (y0 + 0))))) else some (.inl ((IntKind.wrap IntKind.i64 (i_ + 1)), (Prod.snd y2), (Bool.false)))))) else none) else none) else (bif (List.getD (List.getD acts (Int.toNat (offs i_ (0 : Nat))) (List.replicate (3 : Nat) (0 : Int))) (0 : Nat) (0 : Int) == (1 : Int)) then (bif (inR i_ (List.length acts)) then (bif (inR (offs i_ 0) (List.length acts)) then ((m_chunk_Unmap nw cur2 l2 (List.getD (List.getD acts (Int.toNat (offs i_ (0 : Nat))) (List.replicate (3 : Nat) (0 : Int))) (1 : Nat) (0 : Int))).bind fun y5 => (bif (Prod.fst y5) then (bif (c) then ((m_chunk_Count nw (Prod.snd y5) l2).bind fun y6 => some (.inl ((IntKind.wrap IntKind.i64 (i_ + 1)), (Prod.snd y5), (y6 == IntKind.wrap IntKind.i64 (y0 + IntKind.wrap IntKind.i64 (0 - Prod.snd y1)))))) else some (.inl ((IntKind.wrap IntKind.i64 (i_ + 1)), (Prod.snd y5), (Bool.false)))) else (bif (c) then ((m_chunk_Count nw (Prod.snd y5) l2).bind fun y7 => some (.inl ((IntKind.wrap IntKind.i64 (i_ + 1)), (Prod.snd y5), (y7 == IntKind.wrap IntKind.i64 (y0 + 0))))) else some (.inl ((IntKind.wrap IntKind.i64 (i_ + 1)), (Prod.snd y5), (Bool.false)))))) else none) else none) else (bif (inR i_ (List.length acts)) then (bif (inR (offs i_ 0) (List.length acts)) then (bif (inR i_ (List.length acts)) then (bif (inR (offs i_ 0) (List.length acts)) then ((m_chunk_Ensure nw cur2 l2 (List.getD (List.getD acts (Int.toNat (offs i_ (0 : Nat))) (List.replicate (3 : Nat) (0 : Int))) (1 : Nat) (0 : Int)) (List.getD (List.getD acts (Int.toNat (offs i_ (0 : Nat))) (List.replicate (3 : Nat) (0 : Int))) (2 : Nat) (0 : Int))).bind fun y8 => (bif (c) then ((m_chunk_Count nw (Prod.snd y8) l2).bind fun y9 => some (.inl ((IntKind.wrap IntKind.i64 (i_ + 1)), (Prod.snd y8), (y9 == IntKind.wrap IntKind.i64 (y0 + Prod.fst y8))))) else some (.inl ((IntKind.wrap IntKind.i64 (i_ + 1)), (Prod.snd y8), (Bool.false))))) else none) else none) else none) else none))) else none) else none)) else none) else none)) else ((m_chunk_Ensure nw cur2 l2 p n).bind fun y10 => (bif (Decidable.decide (p ≥ 0)) then (bif (Decidable.decide (n ≥ 1)) then ((m_layout_Layout_Config l2).bind fun y11 => (bif (Decidable.decide (p < T_api_Config.Pages y11)) then ((m_layout_Layout_Config l2).bind fun y12 => (bif (c) then ((m_chunk_Covers nw (Prod.snd y10) l2 p n).bind fun y13 => (bif (y13 == Decidable.decide (n ≤ IntKind.wrap IntKind.i64 (T_api_Config.Pages y12 - p))) then ((m_chunk_Ensure nw (Prod.snd y10) l2 p n).bind fun y14 => some (.inr (((Prod.snd y14), (Prod.fst y14 == 0))))) else some (.inr (((Prod.snd y10), (Bool.false)))))) else some (.inr (((Prod.snd y10), (Bool.false)))))) else (bif (c) then ((m_chunk_Covers nw (Prod.snd y10) l2 p n).bind fun y15 => (bif (y15 == Bool.false) then ((m_chunk_Ensure nw (Prod.snd y10) l2 p n).bind fun y16 => some (.inr (((Prod.snd y16), (Prod.fst y16 == 0))))) else some (.inr (((Prod.snd y10), (Bool.false)))))) else some (.inr (((Prod.snd y10), (Bool.false))))))) else (bif (c) then ((m_chunk_Covers nw (Prod.snd y10) l2 p n).bind fun y17 => (bif (y17 == Bool.false) then ((m_chunk_Ensure nw (Prod.snd y10) l2 p n).bind fun y18 => some (.inr (((Prod.snd y18), (Prod.fst y18 == 0))))) else some (.inr (((Prod.snd y10), (Bool.false)))))) else some (.inr (((Prod.snd y10), (Bool.false)))))) else (bif (c) then ((m_chunk_Covers nw (Prod.snd y10) l2 p n).bind fun y19 => (bif (y19 == Bool.false) then ((m_chunk_Ensure nw (Prod.snd y10) l2 p n).bind fun y20 => some (.inr (((Prod.snd y20), (Prod.fst y20 == 0))))) else some (.inr (((Prod.snd y10), (Bool.false)))))) else some (.inr (((Prod.snd y10), (Bool.false))))))))

noncomputable def lp_law08_ChunkCounted_1_L1 (nw : Nat) (l2 : T_layout_Layout) (p : Int) (n : Int) (acts : List (List Int)) (s : Int × (List Int) × Bool) : Option ((List Int) × Bool) :=
  loopO (fun s => sb_law08_ChunkCounted_1_L1 nw l2 p n acts s.1 s.2.1 s.2.2) s

noncomputable def m_law08_ChunkCounted_1 (nw : Nat) (cur : List Int) (right : Bool) (l2 : T_layout_Layout) (p : Int) (n : Int) (acts : List (List Int)) : Option ((List Int) × Bool) :=
  (lp_law08_ChunkCounted_1_L1 nw l2 p n acts ((0), (cur), (Bool.true)))

noncomputable def m_law08_ChunkOnly_1 (nw : Nat) (cur : List Int) (l2 : T_layout_Layout) (a : T_assartlaw08_Act) : Option ((List Int)) :=
  ((m_law08_done nw cur l2 a).bind fun y0 => some ((Prod.snd y0)))

noncomputable def m_law08_lives_1 (nw : Nat) (cur : List Int) (l2 : T_layout_Layout) (n : Int) : Option ((List Int) × Int) :=
  ((m_chunk_Ensure nw cur l2 3 2).bind fun y0 => some (((Prod.snd y0), (Prod.fst y0))))

attribute [local irreducible] Loop ex exF contK roundK retK at_ bodyOf mkEnv
theorem ok_law08_ChunkPlays_1 : SpecOK Try.prog elTT 17 (sp_law08_ChunkPlays_1 m_law08_ChunkPlays_1) := by
  refine spec_of_exF (cfg := (cfg_law08_ChunkPlays_1 m_law08_done)) (cfg_ok rfl rfl rfl) (sig_cons ok_law08_done sig_nil) (fn := Try.f17) (by kernel_rfl) (by kernel_rfl) (by kernel_rfl) ?_
  intro args H K h
  change tr_law08_ChunkPlays_1 m_law08_ChunkPlays_1 args H K at h
  unfold tr_law08_ChunkPlays_1 at h
  replace h := aC_el h
  obtain ⟨a0, _, rfl, h⟩ := h
  replace h := aC_el h
  obtain ⟨a1, _, rfl, h⟩ := h
  replace h := aC_el h
  obtain ⟨a2, _, rfl, h⟩ := h
  replace h := aC_el h
  obtain ⟨a3, _, rfl, h⟩ := h
  replace h := aC_el h
  obtain ⟨a4, _, rfl, h⟩ := h
  replace h := aN_el h
  obtain ⟨rfl, h⟩ := h
  replace h := aPtr_el h
  obtain ⟨rfl, h⟩ := h
  replace h := aPtr_el h
  obtain ⟨rfl, h⟩ := h
  replace h := aPtr_el h
  obtain ⟨rfl, h⟩ := h
  replace h := aPtr_el h
  obtain ⟨rfl, h⟩ := h
  replace h := aPtr_el h
  obtain ⟨rfl, h⟩ := h
  replace h := aC_el h
  obtain ⟨b0, _, rfl, h⟩ := h
  replace h := aC_el h
  obtain ⟨b1, _, rfl, h⟩ := h
  replace h := aC_el h
  obtain ⟨b2, _, rfl, h⟩ := h
  replace h := aC_el h
  obtain ⟨b3, _, rfl, h⟩ := h
  replace h := aC_el h
  obtain ⟨b4, _, rfl, h⟩ := h
  replace h := aC_el h
  obtain ⟨b5, _, rfl, h⟩ := h
  replace h := aC_el h
  obtain ⟨b6, _, rfl, h⟩ := h
  replace h := aN_el h
  obtain ⟨rfl, h⟩ := h
  replace h := bView_el h
  obtain ⟨ws, cur, xs, rfl, h⟩ := h
  replace h := bCells_el h
  obtain ⟨U, c1, rfl, h⟩ := h
  replace h := d_layout_Layout_el h
  obtain ⟨l2, rfl, h⟩ := h
  replace h := bCells_el h
  obtain ⟨U2, c2, rfl, h⟩ := h
  replace h := aC_el h
  obtain ⟨d2_0, _, rfl, h⟩ := h
  replace h := aRow_el h
  obtain ⟨rfl, h⟩ := h
  replace h := aN_el h
  obtain ⟨rfl, h⟩ := h
  replace h := bCells_el h
  obtain ⟨U3, c3, rfl, h⟩ := h
  replace h := aC_el h
  obtain ⟨d3_0, _, rfl, h⟩ := h
  replace h := aInt_el h
  obtain ⟨i_, rfl, h⟩ := h
  replace h := aN_el h
  obtain ⟨rfl, h⟩ := h
  replace h := bCells_el h
  obtain ⟨U4, c4, rfl, h⟩ := h
  replace h := aC_el h
  obtain ⟨d4_0, _, rfl, h⟩ := h
  replace h := aInt_el h
  obtain ⟨x_, rfl, h⟩ := h
  replace h := aN_el h
  obtain ⟨rfl, h⟩ := h
  replace h := bRow_el h
  obtain ⟨(l : List Int), rfl, h⟩ := h
  replace h := bRow_el h
  obtain ⟨(acts : List (List Int)), rfl, h⟩ := h
  obtain ⟨rfl, hx, h⟩ := h
  refine Eq.mpr (nf_law08_ChunkPlays_1 m_law08_done ws cur xs l2 i_ x_ acts U U2 U3 U4 K) ?_
  unfold m_law08_ChunkPlays_1 at h
  revert h
  exact req_So (req_So (and_So (by first | exact rfl | assumption | exact trivial | omega) (and_So (by first | exact rfl | assumption | exact trivial | omega) (bind_So fun y0 => fun h => h))))

theorem lpok_law08_ChunkCounted_1_L1 (ws : List Int) (cur : List Int) (xs : List Value) (right : Bool) (l2 : T_layout_Layout) (p : Int) (n : Int) (acts : List (List Int)) (U : TypeId) (U2 : TypeId) (U3 : TypeId) (U4 : TypeId) (U5 : TypeId) (i_ : Int) (cur2 : List Int) (c : Bool) (K : V → Heap → Prop) (hx : xs.length ≤ 2) : So (lp_law08_ChunkCounted_1_L1 (ws.length) (l2) (p) (n) (acts) (i_, cur2, c)) (fun (x : (List Int) × Bool) => K (.tup []) [.pk 0 [ws, x.1] xs [.row 6], .cells U [vb (x.2)], .cells U2 [.row 7], .cells U3 (e_layout_Layout l2), .cells U4 [vi p], .cells U5 [vi n], .row 0 ws true, .row 6 acts true]) → Loop (cfg_law08_ChunkCounted_1 m_chunk_Count m_chunk_Pages m_chunk_Map m_chunk_Unmap m_chunk_Ensure m_layout_Layout_Config m_chunk_Covers) (⟨128, 8⟩ : Cx) (at_ (bodyOf Try.f21) [1, 0, 1, 0, 0]) (mkEnv [(0, .ptr 0 0), (1, .ptr 1 0), (2, .ptr 2 0), (3, .ptr 3 0), (4, .ptr 4 0), (5, .ptr 5 0), (7, vi (i_))]) [.pk 0 [ws, cur2] (xs) [.row 6], .cells U [vb (c)], .cells U2 [.row 7], .cells U3 (e_layout_Layout l2), .cells U4 [vi (p)], .cells U5 [vi (n)], .row 0 (ws : List (Int)) Bool.true, .row 6 (acts : List (List Int)) Bool.true] (contK (cfg_law08_ChunkCounted_1 m_chunk_Count m_chunk_Pages m_chunk_Map m_chunk_Unmap m_chunk_Ensure m_layout_Layout_Config m_chunk_Covers) (⟨128, 8⟩ : Cx) (bodyOf Try.f21) [1, 0, 1, 0] (retK (cfg_law08_ChunkCounted_1 m_chunk_Count m_chunk_Pages m_chunk_Map m_chunk_Unmap m_chunk_Ensure m_layout_Layout_Config m_chunk_Covers) Try.f21 8 K)) := by
  refine loopK_So (fun (s_ : Int × (List Int) × Bool) => (mkEnv [(0, .ptr 0 0), (1, .ptr 1 0), (2, .ptr 2 0), (3, .ptr 3 0), (4, .ptr 4 0), (5, .ptr 5 0), (7, vi ((s_.1)))])) (fun (s_ : Int × (List Int) × Bool) => [.pk 0 [ws, (s_.2.1)] (xs) [.row 6], .cells U [vb ((s_.2.2))], .cells U2 [.row 7], .cells U3 (e_layout_Layout l2), .cells U4 [vi (p)], .cells U5 [vi (n)], .row 0 (ws : List (Int)) Bool.true, .row 6 (acts : List (List Int)) Bool.true]) (fun (x : (List Int) × Bool) => K (.tup []) [.pk 0 [ws, x.1] xs [.row 6], .cells U [vb (x.2)], .cells U2 [.row 7], .cells U3 (e_layout_Layout l2), .cells U4 [vi p], .cells U5 [vi n], .row 0 ws true, .row 6 acts true]) ?_ (i_, cur2, c)
  intro s_ J1 h
  clear i_
  clear cur2
  clear c
  obtain ⟨i_, cur2, c⟩ := s_
  refine Eq.mpr (nf_law08_ChunkCounted_1_L1 m_chunk_Count m_chunk_Pages m_chunk_Map m_chunk_Unmap m_chunk_Ensure m_layout_Layout_Config m_chunk_Covers ws cur xs right l2 p n acts U U2 U3 U4 U5 i_ cur2 c K J1) ?_
  have h : So (sb_law08_ChunkCounted_1_L1 (ws.length) (l2) (p) (n) (acts) i_ cur2 c) _ := h
  unfold sb_law08_ChunkCounted_1_L1 at h
  revert h
  exact br_So (and_So (by first | exact rfl | assumption | exact trivial | omega) (and_So (by first | exact rfl | assumption | exact trivial | omega) (bind_So fun y0 => req_So (req_So (bind_So fun y1 => req_So (req_So (br_So (req_So (req_So (and_So (by first | exact rfl | assumption | exact trivial | omega) (and_So (by first | exact rfl | assumption | exact trivial | omega) (bind_So fun y2 => br_So (br_So (and_So (by first | exact rfl | assumption | exact trivial | omega) (and_So (by first | exact rfl | assumption | exact trivial | omega) (bind_So fun y3 => fun h => h))) (fun h => h)) (br_So (and_So (by first | exact rfl | assumption | exact trivial | omega) (and_So (by first | exact rfl | assumption | exact trivial | omega) (bind_So fun y4 => fun h => h))) (fun h => h))))))) (br_So (req_So (req_So (and_So (by first | exact rfl | assumption | exact trivial | omega) (and_So (by first | exact rfl | assumption | exact trivial | omega) (bind_So fun y5 => br_So (br_So (and_So (by first | exact rfl | assumption | exact trivial | omega) (and_So (by first | exact rfl | assumption | exact trivial | omega) (bind_So fun y6 => fun h => h))) (fun h => h)) (br_So (and_So (by first | exact rfl | assumption | exact trivial | omega) (and_So (by first | exact rfl | assumption | exact trivial | omega) (bind_So fun y7 => fun h => h))) (fun h => h))))))) (req_So (req_So (req_So (req_So (and_So (by first | exact rfl | assumption | exact trivial | omega) (and_So (by first | exact rfl | assumption | exact trivial | omega) (bind_So fun y8 => br_So (and_So (by first | exact rfl | assumption | exact trivial | omega) (and_So (by first | exact rfl | assumption | exact trivial | omega) (bind_So fun y9 => fun h => h))) (fun h => h)))))))))))))))) (and_So (by first | exact rfl | assumption | exact trivial | omega) (and_So (by first | exact rfl | assumption | exact trivial | omega) (bind_So fun y10 => br_So (br_So (bind_So fun y11 => br_So (bind_So fun y12 => br_So (and_So (by first | exact rfl | assumption | exact trivial | omega) (and_So (by first | exact rfl | assumption | exact trivial | omega) (bind_So fun y13 => br_So (and_So (by first | exact rfl | assumption | exact trivial | omega) (and_So (by first | exact rfl | assumption | exact trivial | omega) (bind_So fun y14 => fun h => h))) (fun h => h)))) (fun h => h)) (br_So (and_So (by first | exact rfl | assumption | exact trivial | omega) (and_So (by first | exact rfl | assumption | exact trivial | omega) (bind_So fun y15 => br_So (and_So (by first | exact rfl | assumption | exact trivial | omega) (and_So (by first | exact rfl | assumption | exact trivial | omega) (bind_So fun y16 => fun h => h))) (fun h => h)))) (fun h => h))) (br_So (and_So (by first | exact rfl | assumption | exact trivial | omega) (and_So (by first | exact rfl | assumption | exact trivial | omega) (bind_So fun y17 => br_So (and_So (by first | exact rfl | assumption | exact trivial | omega) (and_So (by first | exact rfl | assumption | exact trivial | omega) (bind_So fun y18 => fun h => h))) (fun h => h)))) (fun h => h))) (br_So (and_So (by first | exact rfl | assumption | exact trivial | omega) (and_So (by first | exact rfl | assumption | exact trivial | omega) (bind_So fun y19 => br_So (and_So (by first | exact rfl | assumption | exact trivial | omega) (and_So (by first | exact rfl | assumption | exact trivial | omega) (bind_So fun y20 => fun h => h))) (fun h => h)))) (fun h => h)))))

theorem ok_law08_ChunkCounted_1 : SpecOK Try.prog elTT 21 (sp_law08_ChunkCounted_1 m_law08_ChunkCounted_1) := by
  refine spec_of_exF (cfg := (cfg_law08_ChunkCounted_1 m_chunk_Count m_chunk_Pages m_chunk_Map m_chunk_Unmap m_chunk_Ensure m_layout_Layout_Config m_chunk_Covers)) (cfg_ok rfl rfl rfl) (sig_cons ok_chunk_Count (sig_cons ok_chunk_Pages (sig_cons ok_chunk_Map (sig_cons ok_chunk_Unmap (sig_cons ok_chunk_Ensure (sig_cons ok_layout_Layout_Config (sig_cons ok_chunk_Covers sig_nil))))))) (fn := Try.f21) (by kernel_rfl) (by kernel_rfl) (by kernel_rfl) ?_
  intro args H K h
  change tr_law08_ChunkCounted_1 m_law08_ChunkCounted_1 args H K at h
  unfold tr_law08_ChunkCounted_1 at h
  replace h := aC_el h
  obtain ⟨a0, _, rfl, h⟩ := h
  replace h := aC_el h
  obtain ⟨a1, _, rfl, h⟩ := h
  replace h := aC_el h
  obtain ⟨a2, _, rfl, h⟩ := h
  replace h := aC_el h
  obtain ⟨a3, _, rfl, h⟩ := h
  replace h := aC_el h
  obtain ⟨a4, _, rfl, h⟩ := h
  replace h := aC_el h
  obtain ⟨a5, _, rfl, h⟩ := h
  replace h := aN_el h
  obtain ⟨rfl, h⟩ := h
  replace h := aPtr_el h
  obtain ⟨rfl, h⟩ := h
  replace h := aPtr_el h
  obtain ⟨rfl, h⟩ := h
  replace h := aPtr_el h
  obtain ⟨rfl, h⟩ := h
  replace h := aPtr_el h
  obtain ⟨rfl, h⟩ := h
  replace h := aPtr_el h
  obtain ⟨rfl, h⟩ := h
  replace h := aPtr_el h
  obtain ⟨rfl, h⟩ := h
  replace h := aC_el h
  obtain ⟨b0, _, rfl, h⟩ := h
  replace h := aC_el h
  obtain ⟨b1, _, rfl, h⟩ := h
  replace h := aC_el h
  obtain ⟨b2, _, rfl, h⟩ := h
  replace h := aC_el h
  obtain ⟨b3, _, rfl, h⟩ := h
  replace h := aC_el h
  obtain ⟨b4, _, rfl, h⟩ := h
  replace h := aC_el h
  obtain ⟨b5, _, rfl, h⟩ := h
  replace h := aC_el h
  obtain ⟨b6, _, rfl, h⟩ := h
  replace h := aC_el h
  obtain ⟨b7, _, rfl, h⟩ := h
  replace h := aN_el h
  obtain ⟨rfl, h⟩ := h
  replace h := bView_el h
  obtain ⟨ws, cur, xs, rfl, h⟩ := h
  replace h := bCells_el h
  obtain ⟨U, c1, rfl, h⟩ := h
  replace h := aC_el h
  obtain ⟨d1_0, _, rfl, h⟩ := h
  replace h := aBool_el h
  obtain ⟨right, rfl, h⟩ := h
  replace h := aN_el h
  obtain ⟨rfl, h⟩ := h
  replace h := bCells_el h
  obtain ⟨U2, c2, rfl, h⟩ := h
  replace h := aC_el h
  obtain ⟨d2_0, _, rfl, h⟩ := h
  replace h := aRow_el h
  obtain ⟨rfl, h⟩ := h
  replace h := aN_el h
  obtain ⟨rfl, h⟩ := h
  replace h := bCells_el h
  obtain ⟨U3, c3, rfl, h⟩ := h
  replace h := d_layout_Layout_el h
  obtain ⟨l2, rfl, h⟩ := h
  replace h := bCells_el h
  obtain ⟨U4, c4, rfl, h⟩ := h
  replace h := aC_el h
  obtain ⟨d4_0, _, rfl, h⟩ := h
  replace h := aInt_el h
  obtain ⟨p, rfl, h⟩ := h
  replace h := aN_el h
  obtain ⟨rfl, h⟩ := h
  replace h := bCells_el h
  obtain ⟨U5, c5, rfl, h⟩ := h
  replace h := aC_el h
  obtain ⟨d5_0, _, rfl, h⟩ := h
  replace h := aInt_el h
  obtain ⟨n, rfl, h⟩ := h
  replace h := aN_el h
  obtain ⟨rfl, h⟩ := h
  replace h := bRow_el h
  obtain ⟨(l : List Int), rfl, h⟩ := h
  replace h := bRow_el h
  obtain ⟨(acts : List (List Int)), rfl, h⟩ := h
  obtain ⟨rfl, hx, h⟩ := h
  refine Eq.mpr (nf_law08_ChunkCounted_1 m_chunk_Count m_chunk_Pages m_chunk_Map m_chunk_Unmap m_chunk_Ensure m_layout_Layout_Config m_chunk_Covers ws cur xs right l2 p n acts U U2 U3 U4 U5 K) ?_
  unfold m_law08_ChunkCounted_1 at h
  revert h
  exact lpok_law08_ChunkCounted_1_L1 ws cur xs right l2 p n acts U U2 U3 U4 U5 (0) (cur) (Bool.true) K hx

theorem ok_law08_ChunkOnly_1 : SpecOK Try.prog elTT 29 (sp_law08_ChunkOnly_1 m_law08_ChunkOnly_1) := by
  refine spec_of_exF (cfg := (cfg_law08_ChunkOnly_1 m_law08_done)) (cfg_ok rfl rfl rfl) (sig_cons ok_law08_done sig_nil) (fn := Try.f29) (by kernel_rfl) (by kernel_rfl) (by kernel_rfl) ?_
  intro args H K h
  change tr_law08_ChunkOnly_1 m_law08_ChunkOnly_1 args H K at h
  unfold tr_law08_ChunkOnly_1 at h
  replace h := aC_el h
  obtain ⟨a0, _, rfl, h⟩ := h
  replace h := aC_el h
  obtain ⟨a1, _, rfl, h⟩ := h
  replace h := aC_el h
  obtain ⟨a2, _, rfl, h⟩ := h
  replace h := aN_el h
  obtain ⟨rfl, h⟩ := h
  replace h := aPtr_el h
  obtain ⟨rfl, h⟩ := h
  replace h := aPtr_el h
  obtain ⟨rfl, h⟩ := h
  replace h := aPtr_el h
  obtain ⟨rfl, h⟩ := h
  replace h := aC_el h
  obtain ⟨b0, _, rfl, h⟩ := h
  replace h := aC_el h
  obtain ⟨b1, _, rfl, h⟩ := h
  replace h := aC_el h
  obtain ⟨b2, _, rfl, h⟩ := h
  replace h := aC_el h
  obtain ⟨b3, _, rfl, h⟩ := h
  replace h := aN_el h
  obtain ⟨rfl, h⟩ := h
  replace h := bView_el h
  obtain ⟨ws, cur, xs, rfl, h⟩ := h
  replace h := bCells_el h
  obtain ⟨U, c1, rfl, h⟩ := h
  replace h := d_layout_Layout_el h
  obtain ⟨l2, rfl, h⟩ := h
  replace h := bCells_el h
  obtain ⟨U2, c2, rfl, h⟩ := h
  replace h := d_assartlaw08_Act_el h
  obtain ⟨a, rfl, h⟩ := h
  replace h := bRow_el h
  obtain ⟨(l : List Int), rfl, h⟩ := h
  obtain ⟨rfl, hx, h⟩ := h
  refine Eq.mpr (nf_law08_ChunkOnly_1 m_law08_done ws cur xs l2 a U U2 K) ?_
  unfold m_law08_ChunkOnly_1 at h
  revert h
  exact and_So (by first | exact rfl | assumption | exact trivial | omega) (and_So (by first | exact rfl | assumption | exact trivial | omega) (bind_So fun y0 => fun h => h))

theorem ok_law08_lives_1 : SpecOK Try.prog elTT 70 (sp_law08_lives_1 m_law08_lives_1) := by
  refine spec_of_exF (cfg := (cfg_law08_lives_1 m_chunk_Ensure)) (cfg_ok rfl rfl rfl) (sig_cons ok_chunk_Ensure sig_nil) (fn := Try.f70) (by kernel_rfl) (by kernel_rfl) (by kernel_rfl) ?_
  intro args H K h
  change tr_law08_lives_1 m_law08_lives_1 args H K at h
  unfold tr_law08_lives_1 at h
  replace h := aC_el h
  obtain ⟨a0, _, rfl, h⟩ := h
  replace h := aC_el h
  obtain ⟨a1, _, rfl, h⟩ := h
  replace h := aC_el h
  obtain ⟨a2, _, rfl, h⟩ := h
  replace h := aN_el h
  obtain ⟨rfl, h⟩ := h
  replace h := aPtr_el h
  obtain ⟨rfl, h⟩ := h
  replace h := aPtr_el h
  obtain ⟨rfl, h⟩ := h
  replace h := aPtr_el h
  obtain ⟨rfl, h⟩ := h
  replace h := aC_el h
  obtain ⟨b0, _, rfl, h⟩ := h
  replace h := aC_el h
  obtain ⟨b1, _, rfl, h⟩ := h
  replace h := aC_el h
  obtain ⟨b2, _, rfl, h⟩ := h
  replace h := aC_el h
  obtain ⟨b3, _, rfl, h⟩ := h
  replace h := aN_el h
  obtain ⟨rfl, h⟩ := h
  replace h := bView_el h
  obtain ⟨ws, cur, xs, rfl, h⟩ := h
  replace h := bCells_el h
  obtain ⟨U, c1, rfl, h⟩ := h
  replace h := d_layout_Layout_el h
  obtain ⟨l2, rfl, h⟩ := h
  replace h := bCells_el h
  obtain ⟨U2, c2, rfl, h⟩ := h
  replace h := aC_el h
  obtain ⟨d2_0, _, rfl, h⟩ := h
  replace h := aInt_el h
  obtain ⟨n, rfl, h⟩ := h
  replace h := aN_el h
  obtain ⟨rfl, h⟩ := h
  replace h := bRow_el h
  obtain ⟨(l : List Int), rfl, h⟩ := h
  obtain ⟨rfl, hx, h⟩ := h
  refine Eq.mpr (nf_law08_lives_1 m_chunk_Ensure ws cur xs l2 n U U2 K) ?_
  unfold m_law08_lives_1 at h
  revert h
  exact and_So (by first | exact rfl | assumption | exact trivial | omega) (and_So (by first | exact rfl | assumption | exact trivial | omega) (bind_So fun y0 => fun h => h))

end Go.Rx
end

section
/- view.Do, by which program it runs. -/
namespace Go.Rx
theorem Req_el {b : Bool} {A : Prop} (h : Req b A) : b = true ∧ A := by
  cases b with
  | true => exact ⟨rfl, h⟩
  | false => exact h.elim
/-- view.Do by which program it runs. -/
def altD (g : FuncId) (s t : Spec) : Spec := ⟨fun args H K => match args with
  | [_, .fn f _] => bif Nat.beq f g then s.tr args H K else t.tr args H K
  | _ => False, true⟩
theorem altD_ok {P : Program} {e : ET} {n g : FuncId} {s t : Spec} (hs : SpecOK P e n s) (ht : SpecOK P e n t) : SpecOK P e n (altD g s t) := by
  refine ⟨hs.1, fun args H K h => ?_⟩
  unfold altD at h
  simp only at h
  split at h
  · rename_i f _
    cases hb : Nat.beq f g with
    | true => rw [hb] at h; exact hs.2 _ H K h
    | false => rw [hb] at h; exact ht.2 _ H K h
  · exact h.elim
end Go.Rx
end

section
/- view.Do of the programs of chapter 8. -/
namespace Go.Rx
open Go.Proofs
set_option maxRecDepth 100000
set_option maxHeartbeats 4000000
def tr_do_law08_ChunkPlays_1 (m_ : Nat → (List Int) → T_layout_Layout → Int → Int → (List (List Int)) → Option ((List Int) × Int)) (args : List V) (H : Heap) (K : V → Heap → Prop) : Prop :=
  aC args fun a0 r => aC r fun a1 r => aN r <| aRow 0 a0 <| aFn 17 a1 fun cs => aC cs fun p0 r => aC r fun p1 r => aC r fun p2 r => aC r fun p3 r => aN r <| aPtr 1 p0 <| aPtr 2 p1 <| aPtr 3 p2 <| aPtr 4 p3 <| aC H fun b5 r => aC r fun b1 r => aC r fun b2 r => aC r fun b3 r => aC r fun b4 r => aC r fun b6 r => aN r <| bRow 0 true b5 fun (ws : List Int) => bCells b1 fun U c1 => d_layout_Layout c1 fun l2 => bCells b2 fun U2 c2 => aC c2 fun d2_0 r => aRow 5 d2_0 <| aN r <| bCells b3 fun U3 c3 => aC c3 fun d3_0 r => aInt d3_0 fun i_ => aN r <| bCells b4 fun U4 c4 => aC c4 fun d4_0 r => aInt d4_0 fun x_ => aN r <| bRow 6 true b6 fun (acts : List (List Int)) => Req (Nat.ble ws.length 1048576) (So (m_ (ws.length) ws l2 i_ x_ acts) fun x => ∀ nd : List Pr, K (.tup [.row 6, .row 7, vi 0]) [.row 0 ws true, .cells U (e_layout_Layout l2), .cells U2 [.row 5], .cells U3 [vi i_], .cells U4 [vi (x.2)], .row 6 acts true, .row 0 (x.1) false, .row 2 nd false])
def sp_do_law08_ChunkPlays_1 (m_ : Nat → (List Int) → T_layout_Layout → Int → Int → (List (List Int)) → Option ((List Int) × Int)) : Spec := ⟨tr_do_law08_ChunkPlays_1 m_, true⟩
noncomputable def cfgDo_law08_ChunkPlays_1 (m_ : Nat → (List Int) → T_layout_Layout → Int → Int → (List (List Int)) → Option ((List Int) × Int)) : Cfg := cfgDo 17 (sp_law08_ChunkPlays_1 m_) [(0, none), (7, none), (10, none), (31, none), (32, none), (33, none)]

def tr_do_law08_ChunkCounted_1 (m_ : Nat → (List Int) → Bool → T_layout_Layout → Int → Int → (List (List Int)) → Option ((List Int) × Bool)) (args : List V) (H : Heap) (K : V → Heap → Prop) : Prop :=
  aC args fun a0 r => aC r fun a1 r => aN r <| aRow 0 a0 <| aFn 21 a1 fun cs => aC cs fun p0 r => aC r fun p1 r => aC r fun p2 r => aC r fun p3 r => aC r fun p4 r => aN r <| aPtr 1 p0 <| aPtr 2 p1 <| aPtr 3 p2 <| aPtr 4 p3 <| aPtr 5 p4 <| aC H fun b6 r => aC r fun b1 r => aC r fun b2 r => aC r fun b3 r => aC r fun b4 r => aC r fun b5 r => aC r fun b7 r => aN r <| bRow 0 true b6 fun (ws : List Int) => bCells b1 fun U c1 => aC c1 fun d1_0 r => aBool d1_0 fun right => aN r <| bCells b2 fun U2 c2 => aC c2 fun d2_0 r => aRow 6 d2_0 <| aN r <| bCells b3 fun U3 c3 => d_layout_Layout c3 fun l2 => bCells b4 fun U4 c4 => aC c4 fun d4_0 r => aInt d4_0 fun p => aN r <| bCells b5 fun U5 c5 => aC c5 fun d5_0 r => aInt d5_0 fun n => aN r <| bRow 6 true b7 fun (acts : List (List Int)) => Req (Nat.ble ws.length 1048576) (So (m_ (ws.length) ws right l2 p n acts) fun x => ∀ nd : List Pr, K (.tup [.row 7, .row 8, vi 0]) [.row 0 ws true, .cells U [vb (x.2)], .cells U2 [.row 6], .cells U3 (e_layout_Layout l2), .cells U4 [vi p], .cells U5 [vi n], .row 6 acts true, .row 0 (x.1) false, .row 2 nd false])
def sp_do_law08_ChunkCounted_1 (m_ : Nat → (List Int) → Bool → T_layout_Layout → Int → Int → (List (List Int)) → Option ((List Int) × Bool)) : Spec := ⟨tr_do_law08_ChunkCounted_1 m_, true⟩
noncomputable def cfgDo_law08_ChunkCounted_1 (m_ : Nat → (List Int) → Bool → T_layout_Layout → Int → Int → (List (List Int)) → Option ((List Int) × Bool)) : Cfg := cfgDo 21 (sp_law08_ChunkCounted_1 m_) [(0, none), (7, none), (10, none), (31, none), (32, none), (33, none)]

def tr_do_law08_ChunkOnly_1 (m_ : Nat → (List Int) → T_layout_Layout → T_assartlaw08_Act → Option ((List Int))) (args : List V) (H : Heap) (K : V → Heap → Prop) : Prop :=
  aC args fun a0 r => aC r fun a1 r => aN r <| aRow 0 a0 <| aFn 29 a1 fun cs => aC cs fun p0 r => aC r fun p1 r => aN r <| aPtr 1 p0 <| aPtr 2 p1 <| aC H fun b3 r => aC r fun b1 r => aC r fun b2 r => aN r <| bRow 0 true b3 fun (ws : List Int) => bCells b1 fun U c1 => d_layout_Layout c1 fun l2 => bCells b2 fun U2 c2 => d_assartlaw08_Act c2 fun a => Req (Nat.ble ws.length 1048576) (So (m_ (ws.length) ws l2 a) fun x => ∀ nd : List Pr, K (.tup [.row 3, .row 4, vi 0]) [.row 0 ws true, .cells U (e_layout_Layout l2), .cells U2 (e_assartlaw08_Act a), .row 0 (x) false, .row 2 nd false])
def sp_do_law08_ChunkOnly_1 (m_ : Nat → (List Int) → T_layout_Layout → T_assartlaw08_Act → Option ((List Int))) : Spec := ⟨tr_do_law08_ChunkOnly_1 m_, true⟩
noncomputable def cfgDo_law08_ChunkOnly_1 (m_ : Nat → (List Int) → T_layout_Layout → T_assartlaw08_Act → Option ((List Int))) : Cfg := cfgDo 29 (sp_law08_ChunkOnly_1 m_) [(0, none), (7, none), (10, none), (31, none), (32, none), (33, none)]

def tr_do_law08_lives_1 (m_ : Nat → (List Int) → T_layout_Layout → Int → Option ((List Int) × Int)) (args : List V) (H : Heap) (K : V → Heap → Prop) : Prop :=
  aC args fun a0 r => aC r fun a1 r => aN r <| aRow 0 a0 <| aFn 70 a1 fun cs => aC cs fun p0 r => aC r fun p1 r => aN r <| aPtr 1 p0 <| aPtr 2 p1 <| aC H fun b3 r => aC r fun b1 r => aC r fun b2 r => aN r <| bRow 0 true b3 fun (ws : List Int) => bCells b1 fun U c1 => d_layout_Layout c1 fun l2 => bCells b2 fun U2 c2 => aC c2 fun d2_0 r => aInt d2_0 fun n => aN r <| Req (Nat.ble ws.length 1048576) (So (m_ (ws.length) ws l2 n) fun x => ∀ nd : List Pr, K (.tup [.row 3, .row 4, vi 0]) [.row 0 ws true, .cells U (e_layout_Layout l2), .cells U2 [vi (x.2)], .row 0 (x.1) false, .row 2 nd false])
def sp_do_law08_lives_1 (m_ : Nat → (List Int) → T_layout_Layout → Int → Option ((List Int) × Int)) : Spec := ⟨tr_do_law08_lives_1 m_, true⟩
noncomputable def cfgDo_law08_lives_1 (m_ : Nat → (List Int) → T_layout_Layout → Int → Option ((List Int) × Int)) : Cfg := cfgDo 70 (sp_law08_lives_1 m_) [(0, none), (7, none), (10, none), (31, none), (32, none), (33, none)]

theorem nf_do_law08_ChunkPlays_1 (m_ : Nat → (List Int) → T_layout_Layout → Int → Int → (List (List Int)) → Option ((List Int) × Int)) (ws : List Int) (l2 : T_layout_Layout) (i_ : Int) (x_ : Int) (acts : List (List Int)) (U : TypeId) (U2 : TypeId) (U3 : TypeId) (U4 : TypeId) (K : V → Heap → Prop) : (exF (cfgDo_law08_ChunkPlays_1 m_) Try.f16 [.row 0, .fn 17 [.ptr 1 0, .ptr 2 0, .ptr 3 0, .ptr 4 0]] [.row 0 ws true, .cells U (e_layout_Layout l2), .cells U2 [.row 5], .cells U3 [vi i_], .cells U4 [vi x_], .row 6 acts true] K) = (
    Req (Decidable.decide (List.length ws ≤ 1048576)) ((∀ (y0 : Go.Value), (((ws = ws) ∧ (((1 ≤ 2) ∧ (So (m_ (List.length ws) ws l2 i_ x_ acts) (fun (y1 : List Int × Int) => (((y0 = y0) ∧ ((∀ (y2 : Int → Option Int), ((∀ (y3 : Nat), ((∀ (y4 : List Pr), ((∀ (y5 : List (List Int)), (((ViewOK ws (Prod.fst y1) y2 y4 y5) → (Req (Nat.ble (List.length y5) 1048576) (Req (Decidable.decide (0 + List.length ws ≤ 1048576)) (Loop (cfgDo_law08_ChunkPlays_1 m_) (⟨54, 6⟩ : Cx) (at_ (bodyOf Try.f16) [1, 1, 1, 1, 1, 1, 0, 1, 0, 0]) (mkEnv [(0, .row 0), (7, .ptr 6 0), (10, .row 7), (31, .row 8), (32, vi ((↑(List.length (List.map prOf y5)) : Int))), (33, vi (0))]) [.row 0 (ws : List (Int)) Bool.true, .cells U (e_layout_Layout l2), .cells U2 [.row 5], .cells U3 [vi (i_)], .cells U4 [vi (Prod.snd y1)], .row 6 (acts : List (List Int)) Bool.true, .cells 0 [.row 0, .mp 9, .row 10], .row 0 (ws : List (Int)) Bool.false, .row 2 (List.map prOf y5 : List (Pr)) Bool.false, .map (y2) (y3), .row 2 (y4 : List (Pr)) Bool.false] (contK (cfgDo_law08_ChunkPlays_1 m_) (⟨54, 6⟩ : Cx) (bodyOf Try.f16) [1, 1, 1, 1, 1, 1, 0, 1, 0] (retK (cfgDo_law08_ChunkPlays_1 m_) Try.f16 6 K)))))))))))))))))))))))))) := by
  kernel_rfl

theorem nf_do_law08_ChunkPlays_1_r (m_ : Nat → (List Int) → T_layout_Layout → Int → Int → (List (List Int)) → Option ((List Int) × Int)) (ws : List Int) (l2 : T_layout_Layout) (i_ : Int) (x_ : Int) (acts : List (List Int)) (U : TypeId) (U2 : TypeId) (U3 : TypeId) (U4 : TypeId) (x : (List Int) × Int) (now_ : List Int) (ps_ : List Pr) (nd_ : List Pr) (mm_ : Int → Option Int) (mn_ : Nat) (len_ : Int) (j_ : Int) (K : V → Heap → Prop) (J1 : Env → Heap → Prop) : (ex (cfgDo_law08_ChunkPlays_1 m_) (⟨54, 6⟩ : Cx) (at_ (bodyOf Try.f16) [1, 1, 1, 1, 1, 1, 0, 1, 0, 0]) (mkEnv [(0, .row 0), (7, .ptr 6 0), (10, .row 7), (31, .row 8), (32, vi len_), (33, vi j_)]) [.row 0 ws true, .cells U (e_layout_Layout l2), .cells U2 [.row 5], .cells U3 [vi i_], .cells U4 [vi (x.2)], .row 6 acts true, .cells 0 [.row 0, .mp 9, .row 10], .row 0 now_ false, .row 2 ps_ false, .map mm_ mn_, .row 2 nd_ false] (roundK (cfgDo_law08_ChunkPlays_1 m_) (⟨54, 6⟩ : Cx) (at_ (bodyOf Try.f16) [1, 1, 1, 1, 1, 1, 0, 1, 0, 0]) (contK (cfgDo_law08_ChunkPlays_1 m_) (⟨54, 6⟩ : Cx) (bodyOf Try.f16) [1, 1, 1, 1, 1, 1, 0, 1, 0] (retK (cfgDo_law08_ChunkPlays_1 m_) Try.f16 6 K)) J1)) = (
    br (Decidable.decide (j_ < len_)) (Req (inR j_ (List.length ps_)) (Req (inR (offs j_ 0) (List.length ps_)) (br (Decidable.decide (Pr.Addr (List.getD ps_ (Int.toNat (offs j_ 0)) (Pr.mk 0 0)) ≥ (↑(List.length ws) : Int))) (K (.tup [.row 6, .row 7, vi (3)]) [.row 0 (ws : List (Int)) Bool.true, .cells U (e_layout_Layout l2), .cells U2 [.row 5], .cells U3 [vi (i_)], .cells U4 [vi (Prod.snd x)], .row 6 (acts : List (List Int)) Bool.true, .row 0 ([] : List (Int)) Bool.false, .row 2 ([] : List (Pr)) Bool.false]) (Req (inR (Pr.Addr (List.getD ps_ (Int.toNat (offs j_ 0)) (Pr.mk 0 0))) (List.length now_)) (Req (inR (offs (Pr.Addr (List.getD ps_ (Int.toNat (offs j_ 0)) (Pr.mk 0 0))) 0) (List.length now_)) (J1 (mkEnv [(0, .row 0), (7, .ptr 6 0), (10, .row 7), (31, .row 8), (32, vi (len_)), (33, vi (IntKind.wrap IntKind.i64 (j_ + 1)))]) [.row 0 (ws : List (Int)) Bool.true, .cells U (e_layout_Layout l2), .cells U2 [.row 5], .cells U3 [vi (i_)], .cells U4 [vi (Prod.snd x)], .row 6 (acts : List (List Int)) Bool.true, .cells 0 [.row 0, .mp 9, .row 10], .row 0 (List.set now_ (Int.toNat (offs (Pr.Addr (List.getD ps_ (Int.toNat (offs j_ 0)) (Pr.mk 0 0))) 0)) (Pr.Val (List.getD ps_ (Int.toNat (offs j_ 0)) (Pr.mk 0 0))) : List (Int)) Bool.false, .row 2 (ps_ : List (Pr)) Bool.false, .map (mm_) (mn_), .row 2 (nd_ : List (Pr)) Bool.false])))))) (K (.tup [.row 6, .row 7, vi (0)]) [.row 0 (ws : List (Int)) Bool.true, .cells U (e_layout_Layout l2), .cells U2 [.row 5], .cells U3 [vi (i_)], .cells U4 [vi (Prod.snd x)], .row 6 (acts : List (List Int)) Bool.true, .row 0 (now_ : List (Int)) Bool.false, .row 2 (nd_ : List (Pr)) Bool.false])) := by
  kernel_rfl

theorem nf_do_law08_ChunkCounted_1 (m_ : Nat → (List Int) → Bool → T_layout_Layout → Int → Int → (List (List Int)) → Option ((List Int) × Bool)) (ws : List Int) (right : Bool) (l2 : T_layout_Layout) (p : Int) (n : Int) (acts : List (List Int)) (U : TypeId) (U2 : TypeId) (U3 : TypeId) (U4 : TypeId) (U5 : TypeId) (K : V → Heap → Prop) : (exF (cfgDo_law08_ChunkCounted_1 m_) Try.f16 [.row 0, .fn 21 [.ptr 1 0, .ptr 2 0, .ptr 3 0, .ptr 4 0, .ptr 5 0]] [.row 0 ws true, .cells U [vb right], .cells U2 [.row 6], .cells U3 (e_layout_Layout l2), .cells U4 [vi p], .cells U5 [vi n], .row 6 acts true] K) = (
    Req (Decidable.decide (List.length ws ≤ 1048576)) ((∀ (y0 : Go.Value), (((ws = ws) ∧ (((1 ≤ 2) ∧ (So (m_ (List.length ws) ws right l2 p n acts) (fun (y1 : List Int × Bool) => (((y0 = y0) ∧ ((∀ (y2 : Int → Option Int), ((∀ (y3 : Nat), ((∀ (y4 : List Pr), ((∀ (y5 : List (List Int)), (((ViewOK ws (Prod.fst y1) y2 y4 y5) → (Req (Nat.ble (List.length y5) 1048576) (Req (Decidable.decide (0 + List.length ws ≤ 1048576)) (Loop (cfgDo_law08_ChunkCounted_1 m_) (⟨54, 7⟩ : Cx) (at_ (bodyOf Try.f16) [1, 1, 1, 1, 1, 1, 0, 1, 0, 0]) (mkEnv [(0, .row 0), (7, .ptr 7 0), (10, .row 8), (31, .row 9), (32, vi ((↑(List.length (List.map prOf y5)) : Int))), (33, vi (0))]) [.row 0 (ws : List (Int)) Bool.true, .cells U [vb (Prod.snd y1)], .cells U2 [.row 6], .cells U3 (e_layout_Layout l2), .cells U4 [vi (p)], .cells U5 [vi (n)], .row 6 (acts : List (List Int)) Bool.true, .cells 0 [.row 0, .mp 10, .row 11], .row 0 (ws : List (Int)) Bool.false, .row 2 (List.map prOf y5 : List (Pr)) Bool.false, .map (y2) (y3), .row 2 (y4 : List (Pr)) Bool.false] (contK (cfgDo_law08_ChunkCounted_1 m_) (⟨54, 7⟩ : Cx) (bodyOf Try.f16) [1, 1, 1, 1, 1, 1, 0, 1, 0] (retK (cfgDo_law08_ChunkCounted_1 m_) Try.f16 7 K)))))))))))))))))))))))))) := by
  kernel_rfl

theorem nf_do_law08_ChunkCounted_1_r (m_ : Nat → (List Int) → Bool → T_layout_Layout → Int → Int → (List (List Int)) → Option ((List Int) × Bool)) (ws : List Int) (right : Bool) (l2 : T_layout_Layout) (p : Int) (n : Int) (acts : List (List Int)) (U : TypeId) (U2 : TypeId) (U3 : TypeId) (U4 : TypeId) (U5 : TypeId) (x : (List Int) × Bool) (now_ : List Int) (ps_ : List Pr) (nd_ : List Pr) (mm_ : Int → Option Int) (mn_ : Nat) (len_ : Int) (j_ : Int) (K : V → Heap → Prop) (J1 : Env → Heap → Prop) : (ex (cfgDo_law08_ChunkCounted_1 m_) (⟨54, 7⟩ : Cx) (at_ (bodyOf Try.f16) [1, 1, 1, 1, 1, 1, 0, 1, 0, 0]) (mkEnv [(0, .row 0), (7, .ptr 7 0), (10, .row 8), (31, .row 9), (32, vi len_), (33, vi j_)]) [.row 0 ws true, .cells U [vb (x.2)], .cells U2 [.row 6], .cells U3 (e_layout_Layout l2), .cells U4 [vi p], .cells U5 [vi n], .row 6 acts true, .cells 0 [.row 0, .mp 10, .row 11], .row 0 now_ false, .row 2 ps_ false, .map mm_ mn_, .row 2 nd_ false] (roundK (cfgDo_law08_ChunkCounted_1 m_) (⟨54, 7⟩ : Cx) (at_ (bodyOf Try.f16) [1, 1, 1, 1, 1, 1, 0, 1, 0, 0]) (contK (cfgDo_law08_ChunkCounted_1 m_) (⟨54, 7⟩ : Cx) (bodyOf Try.f16) [1, 1, 1, 1, 1, 1, 0, 1, 0] (retK (cfgDo_law08_ChunkCounted_1 m_) Try.f16 7 K)) J1)) = (
    br (Decidable.decide (j_ < len_)) (Req (inR j_ (List.length ps_)) (Req (inR (offs j_ 0) (List.length ps_)) (br (Decidable.decide (Pr.Addr (List.getD ps_ (Int.toNat (offs j_ 0)) (Pr.mk 0 0)) ≥ (↑(List.length ws) : Int))) (K (.tup [.row 7, .row 8, vi (3)]) [.row 0 (ws : List (Int)) Bool.true, .cells U [vb (Prod.snd x)], .cells U2 [.row 6], .cells U3 (e_layout_Layout l2), .cells U4 [vi (p)], .cells U5 [vi (n)], .row 6 (acts : List (List Int)) Bool.true, .row 0 ([] : List (Int)) Bool.false, .row 2 ([] : List (Pr)) Bool.false]) (Req (inR (Pr.Addr (List.getD ps_ (Int.toNat (offs j_ 0)) (Pr.mk 0 0))) (List.length now_)) (Req (inR (offs (Pr.Addr (List.getD ps_ (Int.toNat (offs j_ 0)) (Pr.mk 0 0))) 0) (List.length now_)) (J1 (mkEnv [(0, .row 0), (7, .ptr 7 0), (10, .row 8), (31, .row 9), (32, vi (len_)), (33, vi (IntKind.wrap IntKind.i64 (j_ + 1)))]) [.row 0 (ws : List (Int)) Bool.true, .cells U [vb (Prod.snd x)], .cells U2 [.row 6], .cells U3 (e_layout_Layout l2), .cells U4 [vi (p)], .cells U5 [vi (n)], .row 6 (acts : List (List Int)) Bool.true, .cells 0 [.row 0, .mp 10, .row 11], .row 0 (List.set now_ (Int.toNat (offs (Pr.Addr (List.getD ps_ (Int.toNat (offs j_ 0)) (Pr.mk 0 0))) 0)) (Pr.Val (List.getD ps_ (Int.toNat (offs j_ 0)) (Pr.mk 0 0))) : List (Int)) Bool.false, .row 2 (ps_ : List (Pr)) Bool.false, .map (mm_) (mn_), .row 2 (nd_ : List (Pr)) Bool.false])))))) (K (.tup [.row 7, .row 8, vi (0)]) [.row 0 (ws : List (Int)) Bool.true, .cells U [vb (Prod.snd x)], .cells U2 [.row 6], .cells U3 (e_layout_Layout l2), .cells U4 [vi (p)], .cells U5 [vi (n)], .row 6 (acts : List (List Int)) Bool.true, .row 0 (now_ : List (Int)) Bool.false, .row 2 (nd_ : List (Pr)) Bool.false])) := by
  kernel_rfl

theorem nf_do_law08_ChunkOnly_1 (m_ : Nat → (List Int) → T_layout_Layout → T_assartlaw08_Act → Option ((List Int))) (ws : List Int) (l2 : T_layout_Layout) (a : T_assartlaw08_Act) (U : TypeId) (U2 : TypeId) (K : V → Heap → Prop) : (exF (cfgDo_law08_ChunkOnly_1 m_) Try.f16 [.row 0, .fn 29 [.ptr 1 0, .ptr 2 0]] [.row 0 ws true, .cells U (e_layout_Layout l2), .cells U2 (e_assartlaw08_Act a)] K) = (
    Req (Decidable.decide (List.length ws ≤ 1048576)) ((∀ (y0 : Go.Value), (((ws = ws) ∧ (((1 ≤ 2) ∧ (So (m_ (List.length ws) ws l2 a) (fun (y1 : List Int) => (((y0 = y0) ∧ ((∀ (y2 : Int → Option Int), ((∀ (y3 : Nat), ((∀ (y4 : List Pr), ((∀ (y5 : List (List Int)), (((ViewOK ws y1 y2 y4 y5) → (Req (Nat.ble (List.length y5) 1048576) (Req (Decidable.decide (0 + List.length ws ≤ 1048576)) (Loop (cfgDo_law08_ChunkOnly_1 m_) (⟨54, 3⟩ : Cx) (at_ (bodyOf Try.f16) [1, 1, 1, 1, 1, 1, 0, 1, 0, 0]) (mkEnv [(0, .row 0), (7, .ptr 3 0), (10, .row 4), (31, .row 5), (32, vi ((↑(List.length (List.map prOf y5)) : Int))), (33, vi (0))]) [.row 0 (ws : List (Int)) Bool.true, .cells U (e_layout_Layout l2), .cells U2 (e_assartlaw08_Act a), .cells 0 [.row 0, .mp 6, .row 7], .row 0 (ws : List (Int)) Bool.false, .row 2 (List.map prOf y5 : List (Pr)) Bool.false, .map (y2) (y3), .row 2 (y4 : List (Pr)) Bool.false] (contK (cfgDo_law08_ChunkOnly_1 m_) (⟨54, 3⟩ : Cx) (bodyOf Try.f16) [1, 1, 1, 1, 1, 1, 0, 1, 0] (retK (cfgDo_law08_ChunkOnly_1 m_) Try.f16 3 K)))))))))))))))))))))))))) := by
  kernel_rfl

theorem nf_do_law08_ChunkOnly_1_r (m_ : Nat → (List Int) → T_layout_Layout → T_assartlaw08_Act → Option ((List Int))) (ws : List Int) (l2 : T_layout_Layout) (a : T_assartlaw08_Act) (U : TypeId) (U2 : TypeId) (x : (List Int)) (now_ : List Int) (ps_ : List Pr) (nd_ : List Pr) (mm_ : Int → Option Int) (mn_ : Nat) (len_ : Int) (j_ : Int) (K : V → Heap → Prop) (J1 : Env → Heap → Prop) : (ex (cfgDo_law08_ChunkOnly_1 m_) (⟨54, 3⟩ : Cx) (at_ (bodyOf Try.f16) [1, 1, 1, 1, 1, 1, 0, 1, 0, 0]) (mkEnv [(0, .row 0), (7, .ptr 3 0), (10, .row 4), (31, .row 5), (32, vi len_), (33, vi j_)]) [.row 0 ws true, .cells U (e_layout_Layout l2), .cells U2 (e_assartlaw08_Act a), .cells 0 [.row 0, .mp 6, .row 7], .row 0 now_ false, .row 2 ps_ false, .map mm_ mn_, .row 2 nd_ false] (roundK (cfgDo_law08_ChunkOnly_1 m_) (⟨54, 3⟩ : Cx) (at_ (bodyOf Try.f16) [1, 1, 1, 1, 1, 1, 0, 1, 0, 0]) (contK (cfgDo_law08_ChunkOnly_1 m_) (⟨54, 3⟩ : Cx) (bodyOf Try.f16) [1, 1, 1, 1, 1, 1, 0, 1, 0] (retK (cfgDo_law08_ChunkOnly_1 m_) Try.f16 3 K)) J1)) = (
    br (Decidable.decide (j_ < len_)) (Req (inR j_ (List.length ps_)) (Req (inR (offs j_ 0) (List.length ps_)) (br (Decidable.decide (Pr.Addr (List.getD ps_ (Int.toNat (offs j_ 0)) (Pr.mk 0 0)) ≥ (↑(List.length ws) : Int))) (K (.tup [.row 3, .row 4, vi (3)]) [.row 0 (ws : List (Int)) Bool.true, .cells U (e_layout_Layout l2), .cells U2 (e_assartlaw08_Act a), .row 0 ([] : List (Int)) Bool.false, .row 2 ([] : List (Pr)) Bool.false]) (Req (inR (Pr.Addr (List.getD ps_ (Int.toNat (offs j_ 0)) (Pr.mk 0 0))) (List.length now_)) (Req (inR (offs (Pr.Addr (List.getD ps_ (Int.toNat (offs j_ 0)) (Pr.mk 0 0))) 0) (List.length now_)) (J1 (mkEnv [(0, .row 0), (7, .ptr 3 0), (10, .row 4), (31, .row 5), (32, vi (len_)), (33, vi (IntKind.wrap IntKind.i64 (j_ + 1)))]) [.row 0 (ws : List (Int)) Bool.true, .cells U (e_layout_Layout l2), .cells U2 (e_assartlaw08_Act a), .cells 0 [.row 0, .mp 6, .row 7], .row 0 (List.set now_ (Int.toNat (offs (Pr.Addr (List.getD ps_ (Int.toNat (offs j_ 0)) (Pr.mk 0 0))) 0)) (Pr.Val (List.getD ps_ (Int.toNat (offs j_ 0)) (Pr.mk 0 0))) : List (Int)) Bool.false, .row 2 (ps_ : List (Pr)) Bool.false, .map (mm_) (mn_), .row 2 (nd_ : List (Pr)) Bool.false])))))) (K (.tup [.row 3, .row 4, vi (0)]) [.row 0 (ws : List (Int)) Bool.true, .cells U (e_layout_Layout l2), .cells U2 (e_assartlaw08_Act a), .row 0 (now_ : List (Int)) Bool.false, .row 2 (nd_ : List (Pr)) Bool.false])) := by
  kernel_rfl

theorem nf_do_law08_lives_1 (m_ : Nat → (List Int) → T_layout_Layout → Int → Option ((List Int) × Int)) (ws : List Int) (l2 : T_layout_Layout) (n : Int) (U : TypeId) (U2 : TypeId) (K : V → Heap → Prop) : (exF (cfgDo_law08_lives_1 m_) Try.f16 [.row 0, .fn 70 [.ptr 1 0, .ptr 2 0]] [.row 0 ws true, .cells U (e_layout_Layout l2), .cells U2 [vi n]] K) = (
    Req (Decidable.decide (List.length ws ≤ 1048576)) ((∀ (y0 : Go.Value), (((ws = ws) ∧ (((1 ≤ 2) ∧ (So (m_ (List.length ws) ws l2 n) (fun (y1 : List Int × Int) => (((y0 = y0) ∧ ((∀ (y2 : Int → Option Int), ((∀ (y3 : Nat), ((∀ (y4 : List Pr), ((∀ (y5 : List (List Int)), (((ViewOK ws (Prod.fst y1) y2 y4 y5) → (Req (Nat.ble (List.length y5) 1048576) (Req (Decidable.decide (0 + List.length ws ≤ 1048576)) (Loop (cfgDo_law08_lives_1 m_) (⟨54, 3⟩ : Cx) (at_ (bodyOf Try.f16) [1, 1, 1, 1, 1, 1, 0, 1, 0, 0]) (mkEnv [(0, .row 0), (7, .ptr 3 0), (10, .row 4), (31, .row 5), (32, vi ((↑(List.length (List.map prOf y5)) : Int))), (33, vi (0))]) [.row 0 (ws : List (Int)) Bool.true, .cells U (e_layout_Layout l2), .cells U2 [vi (Prod.snd y1)], .cells 0 [.row 0, .mp 6, .row 7], .row 0 (ws : List (Int)) Bool.false, .row 2 (List.map prOf y5 : List (Pr)) Bool.false, .map (y2) (y3), .row 2 (y4 : List (Pr)) Bool.false] (contK (cfgDo_law08_lives_1 m_) (⟨54, 3⟩ : Cx) (bodyOf Try.f16) [1, 1, 1, 1, 1, 1, 0, 1, 0] (retK (cfgDo_law08_lives_1 m_) Try.f16 3 K)))))))))))))))))))))))))) := by
  kernel_rfl

theorem nf_do_law08_lives_1_r (m_ : Nat → (List Int) → T_layout_Layout → Int → Option ((List Int) × Int)) (ws : List Int) (l2 : T_layout_Layout) (n : Int) (U : TypeId) (U2 : TypeId) (x : (List Int) × Int) (now_ : List Int) (ps_ : List Pr) (nd_ : List Pr) (mm_ : Int → Option Int) (mn_ : Nat) (len_ : Int) (j_ : Int) (K : V → Heap → Prop) (J1 : Env → Heap → Prop) : (ex (cfgDo_law08_lives_1 m_) (⟨54, 3⟩ : Cx) (at_ (bodyOf Try.f16) [1, 1, 1, 1, 1, 1, 0, 1, 0, 0]) (mkEnv [(0, .row 0), (7, .ptr 3 0), (10, .row 4), (31, .row 5), (32, vi len_), (33, vi j_)]) [.row 0 ws true, .cells U (e_layout_Layout l2), .cells U2 [vi (x.2)], .cells 0 [.row 0, .mp 6, .row 7], .row 0 now_ false, .row 2 ps_ false, .map mm_ mn_, .row 2 nd_ false] (roundK (cfgDo_law08_lives_1 m_) (⟨54, 3⟩ : Cx) (at_ (bodyOf Try.f16) [1, 1, 1, 1, 1, 1, 0, 1, 0, 0]) (contK (cfgDo_law08_lives_1 m_) (⟨54, 3⟩ : Cx) (bodyOf Try.f16) [1, 1, 1, 1, 1, 1, 0, 1, 0] (retK (cfgDo_law08_lives_1 m_) Try.f16 3 K)) J1)) = (
    br (Decidable.decide (j_ < len_)) (Req (inR j_ (List.length ps_)) (Req (inR (offs j_ 0) (List.length ps_)) (br (Decidable.decide (Pr.Addr (List.getD ps_ (Int.toNat (offs j_ 0)) (Pr.mk 0 0)) ≥ (↑(List.length ws) : Int))) (K (.tup [.row 3, .row 4, vi (3)]) [.row 0 (ws : List (Int)) Bool.true, .cells U (e_layout_Layout l2), .cells U2 [vi (Prod.snd x)], .row 0 ([] : List (Int)) Bool.false, .row 2 ([] : List (Pr)) Bool.false]) (Req (inR (Pr.Addr (List.getD ps_ (Int.toNat (offs j_ 0)) (Pr.mk 0 0))) (List.length now_)) (Req (inR (offs (Pr.Addr (List.getD ps_ (Int.toNat (offs j_ 0)) (Pr.mk 0 0))) 0) (List.length now_)) (J1 (mkEnv [(0, .row 0), (7, .ptr 3 0), (10, .row 4), (31, .row 5), (32, vi (len_)), (33, vi (IntKind.wrap IntKind.i64 (j_ + 1)))]) [.row 0 (ws : List (Int)) Bool.true, .cells U (e_layout_Layout l2), .cells U2 [vi (Prod.snd x)], .cells 0 [.row 0, .mp 6, .row 7], .row 0 (List.set now_ (Int.toNat (offs (Pr.Addr (List.getD ps_ (Int.toNat (offs j_ 0)) (Pr.mk 0 0))) 0)) (Pr.Val (List.getD ps_ (Int.toNat (offs j_ 0)) (Pr.mk 0 0))) : List (Int)) Bool.false, .row 2 (ps_ : List (Pr)) Bool.false, .map (mm_) (mn_), .row 2 (nd_ : List (Pr)) Bool.false])))))) (K (.tup [.row 3, .row 4, vi (0)]) [.row 0 (ws : List (Int)) Bool.true, .cells U (e_layout_Layout l2), .cells U2 [vi (Prod.snd x)], .row 0 (now_ : List (Int)) Bool.false, .row 2 (nd_ : List (Pr)) Bool.false])) := by
  kernel_rfl

attribute [local irreducible] Loop ex exF contK roundK retK at_ bodyOf mkEnv

theorem okdo_law08_ChunkPlays_1 {m_ : Nat → (List Int) → T_layout_Layout → Int → Int → (List (List Int)) → Option ((List Int) × Int)} (hm : SpecOK Try.prog elTT 17 (sp_law08_ChunkPlays_1 m_)) : SpecOK Try.prog elTT 16 (sp_do_law08_ChunkPlays_1 m_) := by
  refine spec_of_exF (cfg := cfgDo_law08_ChunkPlays_1 m_) (cfg_ok rfl rfl rfl) (sigDo_ok hm) (fn := Try.f16) (by kernel_rfl) (by kernel_rfl) (by kernel_rfl) ?_
  intro args H K h
  change tr_do_law08_ChunkPlays_1 m_ args H K at h
  unfold tr_do_law08_ChunkPlays_1 at h
  replace h := aC_el h
  obtain ⟨a0, _, rfl, h⟩ := h
  replace h := aC_el h
  obtain ⟨a1, _, rfl, h⟩ := h
  replace h := aN_el h
  obtain ⟨rfl, h⟩ := h
  replace h := aRow_el h
  obtain ⟨rfl, h⟩ := h
  replace h := aFn_el h
  obtain ⟨cs, rfl, h⟩ := h
  replace h := aC_el h
  obtain ⟨p0, _, rfl, h⟩ := h
  replace h := aC_el h
  obtain ⟨p1, _, rfl, h⟩ := h
  replace h := aC_el h
  obtain ⟨p2, _, rfl, h⟩ := h
  replace h := aC_el h
  obtain ⟨p3, _, rfl, h⟩ := h
  replace h := aN_el h
  obtain ⟨rfl, h⟩ := h
  replace h := aPtr_el h
  obtain ⟨rfl, h⟩ := h
  replace h := aPtr_el h
  obtain ⟨rfl, h⟩ := h
  replace h := aPtr_el h
  obtain ⟨rfl, h⟩ := h
  replace h := aPtr_el h
  obtain ⟨rfl, h⟩ := h
  replace h := aC_el h
  obtain ⟨b5, _, rfl, h⟩ := h
  replace h := aC_el h
  obtain ⟨b1, _, rfl, h⟩ := h
  replace h := aC_el h
  obtain ⟨b2, _, rfl, h⟩ := h
  replace h := aC_el h
  obtain ⟨b3, _, rfl, h⟩ := h
  replace h := aC_el h
  obtain ⟨b4, _, rfl, h⟩ := h
  replace h := aC_el h
  obtain ⟨b6, _, rfl, h⟩ := h
  replace h := aN_el h
  obtain ⟨rfl, h⟩ := h
  replace h := bRow_el h
  obtain ⟨(ws : List Int), rfl, h⟩ := h
  replace h := bCells_el h
  obtain ⟨U, c1, rfl, h⟩ := h
  replace h := d_layout_Layout_el h
  obtain ⟨l2, rfl, h⟩ := h
  replace h := bCells_el h
  obtain ⟨U2, c2, rfl, h⟩ := h
  replace h := aC_el h
  obtain ⟨d2_0, _, rfl, h⟩ := h
  replace h := aRow_el h
  obtain ⟨rfl, h⟩ := h
  replace h := aN_el h
  obtain ⟨rfl, h⟩ := h
  replace h := bCells_el h
  obtain ⟨U3, c3, rfl, h⟩ := h
  replace h := aC_el h
  obtain ⟨d3_0, _, rfl, h⟩ := h
  replace h := aInt_el h
  obtain ⟨i_, rfl, h⟩ := h
  replace h := aN_el h
  obtain ⟨rfl, h⟩ := h
  replace h := bCells_el h
  obtain ⟨U4, c4, rfl, h⟩ := h
  replace h := aC_el h
  obtain ⟨d4_0, _, rfl, h⟩ := h
  replace h := aInt_el h
  obtain ⟨x_, rfl, h⟩ := h
  replace h := aN_el h
  obtain ⟨rfl, h⟩ := h
  replace h := bRow_el h
  obtain ⟨(acts : List (List Int)), rfl, h⟩ := h
  replace h := Req_el h
  obtain ⟨hsm, h⟩ := h
  have hsm := Nat.le_of_ble_eq_true hsm
  refine Eq.mpr (nf_do_law08_ChunkPlays_1 m_ ws l2 i_ x_ acts U U2 U3 U4 K) (Req_intro (by simpa using hsm) fun y => ⟨rfl, by decide, ?_⟩)
  refine So_imp h fun x hk => ?_
  refine ⟨rfl, fun mm mn nd its hv => Req_intro (Nat.ble_eq_true_of_le (by have := view_its hv; omega)) (Req_intro (decide_eq_true (by omega)) ?_)⟩
  have hlen := view_its hv
  refine loop_ind (σ := Nat) (fun j => (mkEnv [(0, .row 0), (7, .ptr 6 0), (10, .row 7), (31, .row 8), (32, vi ((its.map prOf).length : Int)), (33, vi ((j : Nat) : Int))]))
    (fun j => [.row 0 ws true, .cells U (e_layout_Layout l2), .cells U2 [.row 5], .cells U3 [vi i_], .cells U4 [vi (x.2)], .row 6 acts true, .cells 0 [.row 0, .mp 9, .row 10], .row 0 (nowN ws its j) false, .row 2 (its.map prOf) false, .map mm mn, .row 2 nd false]) (fun j => j ≤ its.length) (fun j => its.length - j) ?_ 0 (Nat.zero_le _)
  intro j hj J hJ
  refine Eq.mpr (nf_do_law08_ChunkPlays_1_r m_ ws l2 i_ x_ acts U U2 U3 U4 x (nowN ws its j) (its.map prOf) nd mm mn _ j K J) (br_intro (fun h1 => ?_) (fun h1 => ?_))
  · have h1 : j < its.length := by simpa using h1
    have h1' : j < (its.map prOf).length := by simpa using h1
    obtain ⟨p1, p2⟩ := pr_in hv h1
    have hnx := hJ (j + 1) h1 (by omega)
    simp only [offs_nat, inR_nat h1', Req_true, Int.toNat_natCast, wrap_succ (show j ≤ 4611686018427387904 by omega), prs_get h1]
    simp only [nowN] at hnx
    generalize prOf (its.getD j []) = p at *
    have hoff : offs p.Addr 0 = p.Addr := by
      have e : p.Addr = ((p.Addr.toNat : Nat) : Int) := by omega
      rw [e]; rfl
    have hin : inR p.Addr (nowN ws its j).length = true := by rw [nowN_len]; exact inR_int p1 p2
    refine br_false (decide_eq_false (by omega)) (Req_intro hin (Req_intro (by rw [hoff]; exact hin) ?_))
    rw [hoff]
    exact hnx
  · have h1 : j = its.length := by simp at h1; omega
    subst h1
    rw [nowN_all hv]
    exact hk nd

theorem okdo_law08_ChunkCounted_1 {m_ : Nat → (List Int) → Bool → T_layout_Layout → Int → Int → (List (List Int)) → Option ((List Int) × Bool)} (hm : SpecOK Try.prog elTT 21 (sp_law08_ChunkCounted_1 m_)) : SpecOK Try.prog elTT 16 (sp_do_law08_ChunkCounted_1 m_) := by
  refine spec_of_exF (cfg := cfgDo_law08_ChunkCounted_1 m_) (cfg_ok rfl rfl rfl) (sigDo_ok hm) (fn := Try.f16) (by kernel_rfl) (by kernel_rfl) (by kernel_rfl) ?_
  intro args H K h
  change tr_do_law08_ChunkCounted_1 m_ args H K at h
  unfold tr_do_law08_ChunkCounted_1 at h
  replace h := aC_el h
  obtain ⟨a0, _, rfl, h⟩ := h
  replace h := aC_el h
  obtain ⟨a1, _, rfl, h⟩ := h
  replace h := aN_el h
  obtain ⟨rfl, h⟩ := h
  replace h := aRow_el h
  obtain ⟨rfl, h⟩ := h
  replace h := aFn_el h
  obtain ⟨cs, rfl, h⟩ := h
  replace h := aC_el h
  obtain ⟨p0, _, rfl, h⟩ := h
  replace h := aC_el h
  obtain ⟨p1, _, rfl, h⟩ := h
  replace h := aC_el h
  obtain ⟨p2, _, rfl, h⟩ := h
  replace h := aC_el h
  obtain ⟨p3, _, rfl, h⟩ := h
  replace h := aC_el h
  obtain ⟨p4, _, rfl, h⟩ := h
  replace h := aN_el h
  obtain ⟨rfl, h⟩ := h
  replace h := aPtr_el h
  obtain ⟨rfl, h⟩ := h
  replace h := aPtr_el h
  obtain ⟨rfl, h⟩ := h
  replace h := aPtr_el h
  obtain ⟨rfl, h⟩ := h
  replace h := aPtr_el h
  obtain ⟨rfl, h⟩ := h
  replace h := aPtr_el h
  obtain ⟨rfl, h⟩ := h
  replace h := aC_el h
  obtain ⟨b6, _, rfl, h⟩ := h
  replace h := aC_el h
  obtain ⟨b1, _, rfl, h⟩ := h
  replace h := aC_el h
  obtain ⟨b2, _, rfl, h⟩ := h
  replace h := aC_el h
  obtain ⟨b3, _, rfl, h⟩ := h
  replace h := aC_el h
  obtain ⟨b4, _, rfl, h⟩ := h
  replace h := aC_el h
  obtain ⟨b5, _, rfl, h⟩ := h
  replace h := aC_el h
  obtain ⟨b7, _, rfl, h⟩ := h
  replace h := aN_el h
  obtain ⟨rfl, h⟩ := h
  replace h := bRow_el h
  obtain ⟨(ws : List Int), rfl, h⟩ := h
  replace h := bCells_el h
  obtain ⟨U, c1, rfl, h⟩ := h
  replace h := aC_el h
  obtain ⟨d1_0, _, rfl, h⟩ := h
  replace h := aBool_el h
  obtain ⟨right, rfl, h⟩ := h
  replace h := aN_el h
  obtain ⟨rfl, h⟩ := h
  replace h := bCells_el h
  obtain ⟨U2, c2, rfl, h⟩ := h
  replace h := aC_el h
  obtain ⟨d2_0, _, rfl, h⟩ := h
  replace h := aRow_el h
  obtain ⟨rfl, h⟩ := h
  replace h := aN_el h
  obtain ⟨rfl, h⟩ := h
  replace h := bCells_el h
  obtain ⟨U3, c3, rfl, h⟩ := h
  replace h := d_layout_Layout_el h
  obtain ⟨l2, rfl, h⟩ := h
  replace h := bCells_el h
  obtain ⟨U4, c4, rfl, h⟩ := h
  replace h := aC_el h
  obtain ⟨d4_0, _, rfl, h⟩ := h
  replace h := aInt_el h
  obtain ⟨p, rfl, h⟩ := h
  replace h := aN_el h
  obtain ⟨rfl, h⟩ := h
  replace h := bCells_el h
  obtain ⟨U5, c5, rfl, h⟩ := h
  replace h := aC_el h
  obtain ⟨d5_0, _, rfl, h⟩ := h
  replace h := aInt_el h
  obtain ⟨n, rfl, h⟩ := h
  replace h := aN_el h
  obtain ⟨rfl, h⟩ := h
  replace h := bRow_el h
  obtain ⟨(acts : List (List Int)), rfl, h⟩ := h
  replace h := Req_el h
  obtain ⟨hsm, h⟩ := h
  have hsm := Nat.le_of_ble_eq_true hsm
  refine Eq.mpr (nf_do_law08_ChunkCounted_1 m_ ws right l2 p n acts U U2 U3 U4 U5 K) (Req_intro (by simpa using hsm) fun y => ⟨rfl, by decide, ?_⟩)
  refine So_imp h fun x hk => ?_
  refine ⟨rfl, fun mm mn nd its hv => Req_intro (Nat.ble_eq_true_of_le (by have := view_its hv; omega)) (Req_intro (decide_eq_true (by omega)) ?_)⟩
  have hlen := view_its hv
  refine loop_ind (σ := Nat) (fun j => (mkEnv [(0, .row 0), (7, .ptr 7 0), (10, .row 8), (31, .row 9), (32, vi ((its.map prOf).length : Int)), (33, vi ((j : Nat) : Int))]))
    (fun j => [.row 0 ws true, .cells U [vb (x.2)], .cells U2 [.row 6], .cells U3 (e_layout_Layout l2), .cells U4 [vi p], .cells U5 [vi n], .row 6 acts true, .cells 0 [.row 0, .mp 10, .row 11], .row 0 (nowN ws its j) false, .row 2 (its.map prOf) false, .map mm mn, .row 2 nd false]) (fun j => j ≤ its.length) (fun j => its.length - j) ?_ 0 (Nat.zero_le _)
  intro j hj J hJ
  refine Eq.mpr (nf_do_law08_ChunkCounted_1_r m_ ws right l2 p n acts U U2 U3 U4 U5 x (nowN ws its j) (its.map prOf) nd mm mn _ j K J) (br_intro (fun h1 => ?_) (fun h1 => ?_))
  · have h1 : j < its.length := by simpa using h1
    have h1' : j < (its.map prOf).length := by simpa using h1
    obtain ⟨p1, p2⟩ := pr_in hv h1
    have hnx := hJ (j + 1) h1 (by omega)
    simp only [offs_nat, inR_nat h1', Req_true, Int.toNat_natCast, wrap_succ (show j ≤ 4611686018427387904 by omega), prs_get h1]
    simp only [nowN] at hnx
    generalize prOf (its.getD j []) = p at *
    have hoff : offs p.Addr 0 = p.Addr := by
      have e : p.Addr = ((p.Addr.toNat : Nat) : Int) := by omega
      rw [e]; rfl
    have hin : inR p.Addr (nowN ws its j).length = true := by rw [nowN_len]; exact inR_int p1 p2
    refine br_false (decide_eq_false (by omega)) (Req_intro hin (Req_intro (by rw [hoff]; exact hin) ?_))
    rw [hoff]
    exact hnx
  · have h1 : j = its.length := by simp at h1; omega
    subst h1
    rw [nowN_all hv]
    exact hk nd

theorem okdo_law08_ChunkOnly_1 {m_ : Nat → (List Int) → T_layout_Layout → T_assartlaw08_Act → Option ((List Int))} (hm : SpecOK Try.prog elTT 29 (sp_law08_ChunkOnly_1 m_)) : SpecOK Try.prog elTT 16 (sp_do_law08_ChunkOnly_1 m_) := by
  refine spec_of_exF (cfg := cfgDo_law08_ChunkOnly_1 m_) (cfg_ok rfl rfl rfl) (sigDo_ok hm) (fn := Try.f16) (by kernel_rfl) (by kernel_rfl) (by kernel_rfl) ?_
  intro args H K h
  change tr_do_law08_ChunkOnly_1 m_ args H K at h
  unfold tr_do_law08_ChunkOnly_1 at h
  replace h := aC_el h
  obtain ⟨a0, _, rfl, h⟩ := h
  replace h := aC_el h
  obtain ⟨a1, _, rfl, h⟩ := h
  replace h := aN_el h
  obtain ⟨rfl, h⟩ := h
  replace h := aRow_el h
  obtain ⟨rfl, h⟩ := h
  replace h := aFn_el h
  obtain ⟨cs, rfl, h⟩ := h
  replace h := aC_el h
  obtain ⟨p0, _, rfl, h⟩ := h
  replace h := aC_el h
  obtain ⟨p1, _, rfl, h⟩ := h
  replace h := aN_el h
  obtain ⟨rfl, h⟩ := h
  replace h := aPtr_el h
  obtain ⟨rfl, h⟩ := h
  replace h := aPtr_el h
  obtain ⟨rfl, h⟩ := h
  replace h := aC_el h
  obtain ⟨b3, _, rfl, h⟩ := h
  replace h := aC_el h
  obtain ⟨b1, _, rfl, h⟩ := h
  replace h := aC_el h
  obtain ⟨b2, _, rfl, h⟩ := h
  replace h := aN_el h
  obtain ⟨rfl, h⟩ := h
  replace h := bRow_el h
  obtain ⟨(ws : List Int), rfl, h⟩ := h
  replace h := bCells_el h
  obtain ⟨U, c1, rfl, h⟩ := h
  replace h := d_layout_Layout_el h
  obtain ⟨l2, rfl, h⟩ := h
  replace h := bCells_el h
  obtain ⟨U2, c2, rfl, h⟩ := h
  replace h := d_assartlaw08_Act_el h
  obtain ⟨a, rfl, h⟩ := h
  replace h := Req_el h
  obtain ⟨hsm, h⟩ := h
  have hsm := Nat.le_of_ble_eq_true hsm
  refine Eq.mpr (nf_do_law08_ChunkOnly_1 m_ ws l2 a U U2 K) (Req_intro (by simpa using hsm) fun y => ⟨rfl, by decide, ?_⟩)
  refine So_imp h fun x hk => ?_
  refine ⟨rfl, fun mm mn nd its hv => Req_intro (Nat.ble_eq_true_of_le (by have := view_its hv; omega)) (Req_intro (decide_eq_true (by omega)) ?_)⟩
  have hlen := view_its hv
  refine loop_ind (σ := Nat) (fun j => (mkEnv [(0, .row 0), (7, .ptr 3 0), (10, .row 4), (31, .row 5), (32, vi ((its.map prOf).length : Int)), (33, vi ((j : Nat) : Int))]))
    (fun j => [.row 0 ws true, .cells U (e_layout_Layout l2), .cells U2 (e_assartlaw08_Act a), .cells 0 [.row 0, .mp 6, .row 7], .row 0 (nowN ws its j) false, .row 2 (its.map prOf) false, .map mm mn, .row 2 nd false]) (fun j => j ≤ its.length) (fun j => its.length - j) ?_ 0 (Nat.zero_le _)
  intro j hj J hJ
  refine Eq.mpr (nf_do_law08_ChunkOnly_1_r m_ ws l2 a U U2 x (nowN ws its j) (its.map prOf) nd mm mn _ j K J) (br_intro (fun h1 => ?_) (fun h1 => ?_))
  · have h1 : j < its.length := by simpa using h1
    have h1' : j < (its.map prOf).length := by simpa using h1
    obtain ⟨p1, p2⟩ := pr_in hv h1
    have hnx := hJ (j + 1) h1 (by omega)
    simp only [offs_nat, inR_nat h1', Req_true, Int.toNat_natCast, wrap_succ (show j ≤ 4611686018427387904 by omega), prs_get h1]
    simp only [nowN] at hnx
    generalize prOf (its.getD j []) = p at *
    have hoff : offs p.Addr 0 = p.Addr := by
      have e : p.Addr = ((p.Addr.toNat : Nat) : Int) := by omega
      rw [e]; rfl
    have hin : inR p.Addr (nowN ws its j).length = true := by rw [nowN_len]; exact inR_int p1 p2
    refine br_false (decide_eq_false (by omega)) (Req_intro hin (Req_intro (by rw [hoff]; exact hin) ?_))
    rw [hoff]
    exact hnx
  · have h1 : j = its.length := by simp at h1; omega
    subst h1
    rw [nowN_all hv]
    exact hk nd

theorem okdo_law08_lives_1 {m_ : Nat → (List Int) → T_layout_Layout → Int → Option ((List Int) × Int)} (hm : SpecOK Try.prog elTT 70 (sp_law08_lives_1 m_)) : SpecOK Try.prog elTT 16 (sp_do_law08_lives_1 m_) := by
  refine spec_of_exF (cfg := cfgDo_law08_lives_1 m_) (cfg_ok rfl rfl rfl) (sigDo_ok hm) (fn := Try.f16) (by kernel_rfl) (by kernel_rfl) (by kernel_rfl) ?_
  intro args H K h
  change tr_do_law08_lives_1 m_ args H K at h
  unfold tr_do_law08_lives_1 at h
  replace h := aC_el h
  obtain ⟨a0, _, rfl, h⟩ := h
  replace h := aC_el h
  obtain ⟨a1, _, rfl, h⟩ := h
  replace h := aN_el h
  obtain ⟨rfl, h⟩ := h
  replace h := aRow_el h
  obtain ⟨rfl, h⟩ := h
  replace h := aFn_el h
  obtain ⟨cs, rfl, h⟩ := h
  replace h := aC_el h
  obtain ⟨p0, _, rfl, h⟩ := h
  replace h := aC_el h
  obtain ⟨p1, _, rfl, h⟩ := h
  replace h := aN_el h
  obtain ⟨rfl, h⟩ := h
  replace h := aPtr_el h
  obtain ⟨rfl, h⟩ := h
  replace h := aPtr_el h
  obtain ⟨rfl, h⟩ := h
  replace h := aC_el h
  obtain ⟨b3, _, rfl, h⟩ := h
  replace h := aC_el h
  obtain ⟨b1, _, rfl, h⟩ := h
  replace h := aC_el h
  obtain ⟨b2, _, rfl, h⟩ := h
  replace h := aN_el h
  obtain ⟨rfl, h⟩ := h
  replace h := bRow_el h
  obtain ⟨(ws : List Int), rfl, h⟩ := h
  replace h := bCells_el h
  obtain ⟨U, c1, rfl, h⟩ := h
  replace h := d_layout_Layout_el h
  obtain ⟨l2, rfl, h⟩ := h
  replace h := bCells_el h
  obtain ⟨U2, c2, rfl, h⟩ := h
  replace h := aC_el h
  obtain ⟨d2_0, _, rfl, h⟩ := h
  replace h := aInt_el h
  obtain ⟨n, rfl, h⟩ := h
  replace h := aN_el h
  obtain ⟨rfl, h⟩ := h
  replace h := Req_el h
  obtain ⟨hsm, h⟩ := h
  have hsm := Nat.le_of_ble_eq_true hsm
  refine Eq.mpr (nf_do_law08_lives_1 m_ ws l2 n U U2 K) (Req_intro (by simpa using hsm) fun y => ⟨rfl, by decide, ?_⟩)
  refine So_imp h fun x hk => ?_
  refine ⟨rfl, fun mm mn nd its hv => Req_intro (Nat.ble_eq_true_of_le (by have := view_its hv; omega)) (Req_intro (decide_eq_true (by omega)) ?_)⟩
  have hlen := view_its hv
  refine loop_ind (σ := Nat) (fun j => (mkEnv [(0, .row 0), (7, .ptr 3 0), (10, .row 4), (31, .row 5), (32, vi ((its.map prOf).length : Int)), (33, vi ((j : Nat) : Int))]))
    (fun j => [.row 0 ws true, .cells U (e_layout_Layout l2), .cells U2 [vi (x.2)], .cells 0 [.row 0, .mp 6, .row 7], .row 0 (nowN ws its j) false, .row 2 (its.map prOf) false, .map mm mn, .row 2 nd false]) (fun j => j ≤ its.length) (fun j => its.length - j) ?_ 0 (Nat.zero_le _)
  intro j hj J hJ
  refine Eq.mpr (nf_do_law08_lives_1_r m_ ws l2 n U U2 x (nowN ws its j) (its.map prOf) nd mm mn _ j K J) (br_intro (fun h1 => ?_) (fun h1 => ?_))
  · have h1 : j < its.length := by simpa using h1
    have h1' : j < (its.map prOf).length := by simpa using h1
    obtain ⟨p1, p2⟩ := pr_in hv h1
    have hnx := hJ (j + 1) h1 (by omega)
    simp only [offs_nat, inR_nat h1', Req_true, Int.toNat_natCast, wrap_succ (show j ≤ 4611686018427387904 by omega), prs_get h1]
    simp only [nowN] at hnx
    generalize prOf (its.getD j []) = p at *
    have hoff : offs p.Addr 0 = p.Addr := by
      have e : p.Addr = ((p.Addr.toNat : Nat) : Int) := by omega
      rw [e]; rfl
    have hin : inR p.Addr (nowN ws its j).length = true := by rw [nowN_len]; exact inR_int p1 p2
    refine br_false (decide_eq_false (by omega)) (Req_intro hin (Req_intro (by rw [hoff]; exact hin) ?_))
    rw [hoff]
    exact hnx
  · have h1 : j = its.length := by simp at h1; omega
    subst h1
    rw [nowN_all hv]
    exact hk nd

end Go.Rx
end

section
/- Contracts. -/
namespace Go.Rx
open Go.Proofs
set_option maxRecDepth 100000
set_option maxHeartbeats 4000000
/-! assart/assartlaw08.lives -/
def tr_law08_lives (m_ : Option (Bool)) (args : List V) (H : Heap) (K : V → Heap → Prop) : Prop :=
  aN args <| aN H <| So (m_ ) fun x => K (vb (x)) []
def sp_law08_lives (m_ : Option (Bool)) : Spec := ⟨tr_law08_lives m_, true⟩

/-! assart/assartlaw08.ChunkPlays -/
def tr_law08_ChunkPlays (m_ : T_api_Config → (List (List Int)) → Option (Bool)) (args : List V) (H : Heap) (K : V → Heap → Prop) : Prop :=
  aC args fun a0 r => aC r fun a1 r => aN r <| aAgg a0 fun c0 => d_api_Config c0 fun c => aRow 0 a1 <| aC H fun b0 r => aN r <| bRow 6 true b0 fun (acts : List (List Int)) => So (m_ c acts) fun x => K (vb (x)) [.row 6 acts true]
def sp_law08_ChunkPlays (m_ : T_api_Config → (List (List Int)) → Option (Bool)) : Spec := ⟨tr_law08_ChunkPlays m_, true⟩

/-! assart/assartlaw08.ChunkCounted -/
def tr_law08_ChunkCounted (m_ : T_api_Config → Int → Int → (List (List Int)) → Option (Bool)) (args : List V) (H : Heap) (K : V → Heap → Prop) : Prop :=
  aC args fun a0 r => aC r fun a1 r => aC r fun a2 r => aC r fun a3 r => aN r <| aAgg a0 fun c0 => d_api_Config c0 fun c => aRow 0 a1 <| aInt a2 fun p => aInt a3 fun n => aC H fun b0 r => aN r <| bRow 6 true b0 fun (acts : List (List Int)) => So (m_ c p n acts) fun x => K (vb (x)) [.row 6 acts true]
def sp_law08_ChunkCounted (m_ : T_api_Config → Int → Int → (List (List Int)) → Option (Bool)) : Spec := ⟨tr_law08_ChunkCounted m_, true⟩

/-! assart/assartlaw08.ChunkOnly -/
def tr_law08_ChunkOnly (m_ : T_api_Config → T_assartlaw08_Act → Option (Bool)) (args : List V) (H : Heap) (K : V → Heap → Prop) : Prop :=
  aC args fun a0 r => aC r fun a1 r => aN r <| aAgg a0 fun c0 => d_api_Config c0 fun c => aAgg a1 fun c1 => d_assartlaw08_Act c1 fun a => aN H <| So (m_ c a) fun x => K (vb (x)) []
def sp_law08_ChunkOnly (m_ : T_api_Config → T_assartlaw08_Act → Option (Bool)) : Spec := ⟨tr_law08_ChunkOnly m_, true⟩

noncomputable def cfg_law08_lives (m_law08_Begin : T_api_Config → Option (T_layout_Layout × T_assartref02_Layout × (List Int))) (m_layout_Layout_Config : T_layout_Layout → Option (T_api_Config)) (m_layout_Of : T_api_Config → Option (T_layout_Layout × Int)) (m_layout_Layout_Words : T_layout_Layout → Option (Int)) (m_law08_lives_1 : Nat → (List Int) → T_layout_Layout → Int → Option ((List Int) × Int)) (m_layout_Layout_Table : T_layout_Layout → Int → Option (Int)) : Cfg := { cfgB with
  sigs := (sigC 15 (sp_law08_Begin m_law08_Begin) (sigC 27 (sp_layout_Layout_Config m_layout_Layout_Config) (sigC 68 (sp_layout_Of m_layout_Of) (sigC 69 (sp_layout_Layout_Words m_layout_Layout_Words) (sigC 16 (sp_do_law08_lives_1 m_law08_lives_1) (sigC 31 (sp_layout_Layout_Table m_layout_Layout_Table) sigN)))))) }

noncomputable def cfg_law08_ChunkPlays (m_law08_lives : Option (Bool)) (m_law08_Begin : T_api_Config → Option (T_layout_Layout × T_assartref02_Layout × (List Int))) (m_law08_ChunkPlays_1 : Nat → (List Int) → T_layout_Layout → Int → Int → (List (List Int)) → Option ((List Int) × Int)) (m_law08_told : T_assartref02_Layout → T_assartlaw08_Act → (List Int) → Option (Int × (List Int))) (m_law01_Ints_Same : (List Int) → (List Int) → Option (Bool)) : Cfg := { cfgB with
  sigs := (sigC 14 (sp_law08_lives m_law08_lives) (sigC 15 (sp_law08_Begin m_law08_Begin) (sigC 16 (sp_do_law08_ChunkPlays_1 m_law08_ChunkPlays_1) (sigC 19 (sp_law08_told m_law08_told) (sigC 20 (sp_law01_Ints_Same m_law01_Ints_Same) sigN))))),
  keep := fun r => match r with | 6 => some [(3, none), (5, none), (6, none), (7, some 0), (8, some 0), (9, none)] | _ => none,
  plan := fun r => match r with | 10 => some (List.range 8, 1) | _ => none }

noncomputable def cfg_law08_ChunkCounted (m_law08_lives : Option (Bool)) (m_law08_Begin : T_api_Config → Option (T_layout_Layout × T_assartref02_Layout × (List Int))) (m_law08_ChunkCounted_1 : Nat → (List Int) → Bool → T_layout_Layout → Int → Int → (List (List Int)) → Option ((List Int) × Bool)) : Cfg := { cfgB with
  sigs := (sigC 14 (sp_law08_lives m_law08_lives) (sigC 15 (sp_law08_Begin m_law08_Begin) (sigC 16 (sp_do_law08_ChunkCounted_1 m_law08_ChunkCounted_1) sigN))) }

noncomputable def cfg_law08_ChunkOnly (m_law08_Begin : T_api_Config → Option (T_layout_Layout × T_assartref02_Layout × (List Int))) (m_law08_ChunkOnly_1 : Nat → (List Int) → T_layout_Layout → T_assartlaw08_Act → Option ((List Int))) (m_layout_Layout_Chunks : T_layout_Layout → Option (Int)) (m_layout_Layout_Table : T_layout_Layout → Int → Option (Int)) (m_law01_Ints_Same : (List Int) → (List Int) → Option (Bool)) (m_law08_lives : Option (Bool)) : Cfg := { cfgB with
  sigs := (sigC 15 (sp_law08_Begin m_law08_Begin) (sigC 16 (sp_do_law08_ChunkOnly_1 m_law08_ChunkOnly_1) (sigC 30 (sp_layout_Layout_Chunks m_layout_Layout_Chunks) (sigC 31 (sp_layout_Layout_Table m_layout_Layout_Table) (sigC 20 (sp_law01_Ints_Same m_law01_Ints_Same) (sigC 14 (sp_law08_lives m_law08_lives) sigN)))))),
  keep := fun r => match r with | 3 => some [(3, none), (5, none), (7, some 0), (8, none)] | 10 => some [(5, none), (7, some 0), (9, some 0), (12, none)] | _ => none,
  plan := fun r => match r with | 12 => some ([0, 1, 2, 4, 5, 6, 3, 7, 8, 9, 10, 11], 0) | _ => none }

theorem nf_law08_lives (m_law08_Begin : T_api_Config → Option (T_layout_Layout × T_assartref02_Layout × (List Int))) (m_layout_Layout_Config : T_layout_Layout → Option (T_api_Config)) (m_layout_Of : T_api_Config → Option (T_layout_Layout × Int)) (m_layout_Layout_Words : T_layout_Layout → Option (Int)) (m_law08_lives_1 : Nat → (List Int) → T_layout_Layout → Int → Option ((List Int) × Int)) (m_layout_Layout_Table : T_layout_Layout → Int → Option (Int)) (K : V → Heap → Prop) : (exF (cfg_law08_lives m_law08_Begin m_layout_Layout_Config m_layout_Of m_layout_Layout_Words m_law08_lives_1 m_layout_Layout_Table) Try.f14 [] [] K) = (
    So (m_law08_Begin (T_api_Config.mk 0 0 4 0 0 0 0 0 0 0 0)) (fun (y0 : T_layout_Layout × T_assartref02_Layout × List Int) => (So (m_layout_Layout_Config (Prod.fst y0)) (fun (y1 : T_api_Config) => (So (m_layout_Of (T_api_Config.mk (T_api_Config.Workers y1) (T_api_Config.CPUs y1) 5 (T_api_Config.Stripes y1) (T_api_Config.Tries y1) (T_api_Config.Wait y1) (T_api_Config.Clock y1) (T_api_Config.Private y1) (T_api_Config.Cache y1) (T_api_Config.Bin y1) (T_api_Config.Batch y1))) (fun (y2 : T_layout_Layout × Int) => (So (m_layout_Layout_Words (Prod.fst y2)) (fun (y3 : Int) => (Req (Decidable.decide (0 ≤ y3 ∧ y3 ≤ y3 ∧ y3 ≤ 1048576)) (Req (Nat.ble (List.length (List.replicate (Int.toNat y3) (0 : Int))) (1048576 : Nat)) (So (m_law08_lives_1 (List.length (List.replicate (Int.toNat y3) (0 : Int))) (List.replicate (Int.toNat y3) (0 : Int)) (Prod.fst y2) (0 : Int)) (fun (y4 : List Int × Int) => ((∀ (y5 : List Pr), (br (Prod.snd y2 == 0) (br (Prod.snd y4 == 5) (br ((↑(List.length (Prod.fst y4)) : Int) == (↑(List.length (List.replicate (Int.toNat y3) (0 : Int))) : Int)) (So (m_layout_Layout_Table (Prod.fst y2) 1) (fun (y6 : Int) => (Req (inR y6 (List.length (Prod.fst y4))) (Req (inR (offs y6 0) (List.length (Prod.fst y4))) (K (vb (List.getD (Prod.fst y4) (Int.toNat (offs y6 0)) 0 == 1)) []))))) (K (vb (Bool.false)) [])) (K (vb (Bool.false)) [])) (K (vb (Bool.false)) [])))))))))))))))) := by
  kernel_rfl

theorem nf_law08_ChunkPlays_L1 (m_law08_lives : Option (Bool)) (m_law08_Begin : T_api_Config → Option (T_layout_Layout × T_assartref02_Layout × (List Int))) (m_law08_ChunkPlays_1 : Nat → (List Int) → T_layout_Layout → Int → Int → (List (List Int)) → Option ((List Int) × Int)) (m_law08_told : T_assartref02_Layout → T_assartlaw08_Act → (List Int) → Option (Int × (List Int))) (m_law01_Ints_Same : (List Int) → (List Int) → Option (Bool)) (c : T_api_Config) (acts : List (List Int)) (c2 : T_layout_Layout) (c3 : T_assartref02_Layout) (w : List Int) (w2 : List Int) (c4 : Int) (K : V → Heap → Prop) (J1 : Env → Heap → Prop) : (ex (cfg_law08_ChunkPlays m_law08_lives m_law08_Begin m_law08_ChunkPlays_1 m_law08_told m_law01_Ints_Same) (⟨64, 1⟩ : Cx) (at_ (bodyOf Try.f3) [1, 1, 1, 1, 0, 1, 0, 0]) (mkEnv [(3, .ptr 1 0), (5, .ptr 2 0), (6, .ptr 3 0), (7, .row 4), (8, .row 5), (9, .ptr 6 0)]) [.row 6 (acts : List (List Int)) Bool.true, .cells 24 [.row 0], .cells 28 (e_layout_Layout c2), .cells 30 (e_api_Config (T_assartref02_Layout.C c3)), .row 0 (w : List (Int)) Bool.false, .row 0 (w2 : List (Int)) Bool.false, .cells 3 [vi (c4)]] (roundK (cfg_law08_ChunkPlays m_law08_lives m_law08_Begin m_law08_ChunkPlays_1 m_law08_told m_law01_Ints_Same) (⟨64, 1⟩ : Cx) (at_ (bodyOf Try.f3) [1, 1, 1, 1, 0, 1, 0, 0]) (contK (cfg_law08_ChunkPlays m_law08_lives m_law08_Begin m_law08_ChunkPlays_1 m_law08_told m_law01_Ints_Same) (⟨64, 1⟩ : Cx) (bodyOf Try.f3) [1, 1, 1, 1, 0, 1, 0] (retK (cfg_law08_ChunkPlays m_law08_lives m_law08_Begin m_law08_ChunkPlays_1 m_law08_told m_law01_Ints_Same) Try.f3 1 K)) J1)) = (
    br (Decidable.decide (c4 < (↑(List.length acts) : Int))) (Req (Nat.ble (List.length w) 1048576) (So (m_law08_ChunkPlays_1 (List.length w) w c2 c4 0 acts) (fun (y0 : List Int × Int) => ((∀ (y1 : List Pr), (Req (inR c4 (List.length acts)) (Req (inR (offs c4 0) (List.length acts)) (So (m_law08_told c3 (T_assartlaw08_Act.mk (List.getD (List.getD acts (Int.toNat (offs c4 (0 : Nat))) (List.replicate (3 : Nat) (0 : Int))) (0 : Nat) (0 : Int)) (List.getD (List.getD acts (Int.toNat (offs c4 (0 : Nat))) (List.replicate (3 : Nat) (0 : Int))) (1 : Nat) (0 : Int)) (List.getD (List.getD acts (Int.toNat (offs c4 (0 : Nat))) (List.replicate (3 : Nat) (0 : Int))) (2 : Nat) (0 : Int))) w2) (fun (y2 : Int × List Int) => (br (Prod.snd y0 != Prod.fst y2) (K (vb (Bool.false)) [.row 6 (acts : List (List Int)) Bool.true]) (So (m_law01_Ints_Same (Prod.fst y0) (Prod.snd y2)) (fun (y3 : Bool) => (br (!y3) (K (vb (Bool.false)) [.row 6 (acts : List (List Int)) Bool.true]) (J1 (mkEnv [(3, .ptr 1 0), (5, .ptr 2 0), (6, .ptr 3 0), (7, .row 4), (8, .row 5), (9, .ptr 6 0)]) [.row 6 (acts : List (List Int)) Bool.true, .cells 24 [.row 0], .cells 28 (e_layout_Layout c2), .cells 30 (e_api_Config (T_assartref02_Layout.C c3)), .row 0 (Prod.fst y0 : List (Int)) Bool.false, .row 0 (Prod.snd y2 : List (Int)) Bool.false, .cells 3 [vi (IntKind.wrap IntKind.i64 (c4 + 1))]])))))))))))))) (So (m_law08_lives) (fun (y4 : Bool) => (K (vb (y4)) [.row 6 (acts : List (List Int)) Bool.true])))) := by
  kernel_rfl

theorem nf_law08_ChunkPlays (m_law08_lives : Option (Bool)) (m_law08_Begin : T_api_Config → Option (T_layout_Layout × T_assartref02_Layout × (List Int))) (m_law08_ChunkPlays_1 : Nat → (List Int) → T_layout_Layout → Int → Int → (List (List Int)) → Option ((List Int) × Int)) (m_law08_told : T_assartref02_Layout → T_assartlaw08_Act → (List Int) → Option (Int × (List Int))) (m_law01_Ints_Same : (List Int) → (List Int) → Option (Bool)) (c : T_api_Config) (acts : List (List Int)) (K : V → Heap → Prop) : (exF (cfg_law08_ChunkPlays m_law08_lives m_law08_Begin m_law08_ChunkPlays_1 m_law08_told m_law01_Ints_Same) Try.f3 [.agg (e_api_Config c), .row 0] [.row 6 acts true] K) = (
    br (Decidable.decide ((↑(List.length acts) : Int) > 100)) (So (m_law08_lives) (fun (y0 : Bool) => (K (vb (y0)) [.row 6 (acts : List (List Int)) Bool.true]))) (So (m_law08_Begin c) (fun (y1 : T_layout_Layout × T_assartref02_Layout × List Int) => (Req (Decidable.decide (0 + List.length (Prod.snd (Prod.snd y1)) ≤ 1048576)) (Loop (cfg_law08_ChunkPlays m_law08_lives m_law08_Begin m_law08_ChunkPlays_1 m_law08_told m_law01_Ints_Same) (⟨64, 1⟩ : Cx) (at_ (bodyOf Try.f3) [1, 1, 1, 1, 0, 1, 0, 0]) (mkEnv [(3, .ptr 1 0), (5, .ptr 2 0), (6, .ptr 3 0), (7, .row 4), (8, .row 5), (9, .ptr 6 0)]) [.row 6 (acts : List (List Int)) Bool.true, .cells 24 [.row 0], .cells 28 (e_layout_Layout (Prod.fst y1)), .cells 30 (e_api_Config (T_assartref02_Layout.C (Prod.fst (Prod.snd y1)))), .row 0 (Prod.snd (Prod.snd y1) : List (Int)) Bool.false, .row 0 (Prod.snd (Prod.snd y1) : List (Int)) Bool.false, .cells 3 [vi (0)]] (contK (cfg_law08_ChunkPlays m_law08_lives m_law08_Begin m_law08_ChunkPlays_1 m_law08_told m_law01_Ints_Same) (⟨64, 1⟩ : Cx) (bodyOf Try.f3) [1, 1, 1, 1, 0, 1, 0] (retK (cfg_law08_ChunkPlays m_law08_lives m_law08_Begin m_law08_ChunkPlays_1 m_law08_told m_law01_Ints_Same) Try.f3 1 K))))))) := by
  kernel_rfl

theorem nf_law08_ChunkCounted (m_law08_lives : Option (Bool)) (m_law08_Begin : T_api_Config → Option (T_layout_Layout × T_assartref02_Layout × (List Int))) (m_law08_ChunkCounted_1 : Nat → (List Int) → Bool → T_layout_Layout → Int → Int → (List (List Int)) → Option ((List Int) × Bool)) (c : T_api_Config) (p : Int) (n : Int) (acts : List (List Int)) (K : V → Heap → Prop) : (exF (cfg_law08_ChunkCounted m_law08_lives m_law08_Begin m_law08_ChunkCounted_1) Try.f4 [.agg (e_api_Config c), .row 0, vi p, vi n] [.row 6 acts true] K) = (
    br (Decidable.decide ((↑(List.length acts) : Int) > 60)) (So (m_law08_lives) (fun (y0 : Bool) => (K (vb (y0)) [.row 6 (acts : List (List Int)) Bool.true]))) (So (m_law08_Begin c) (fun (y1 : T_layout_Layout × T_assartref02_Layout × List Int) => (Req (Nat.ble (List.length (Prod.snd (Prod.snd y1))) 1048576) (So (m_law08_ChunkCounted_1 (List.length (Prod.snd (Prod.snd y1))) (Prod.snd (Prod.snd y1)) Bool.true (Prod.fst y1) p n acts) (fun (y2 : List Int × Bool) => ((∀ (y3 : List Pr), (br (Prod.snd y2) (So (m_law08_lives) (fun (y4 : Bool) => (K (vb (y4)) [.row 6 (acts : List (List Int)) Bool.true]))) (K (vb (Bool.false)) [.row 6 (acts : List (List Int)) Bool.true])))))))))) := by
  kernel_rfl

theorem nf_law08_ChunkOnly_L2 (m_law08_Begin : T_api_Config → Option (T_layout_Layout × T_assartref02_Layout × (List Int))) (m_law08_ChunkOnly_1 : Nat → (List Int) → T_layout_Layout → T_assartlaw08_Act → Option ((List Int))) (m_layout_Layout_Chunks : T_layout_Layout → Option (Int)) (m_layout_Layout_Table : T_layout_Layout → Int → Option (Int)) (m_law01_Ints_Same : (List Int) → (List Int) → Option (Bool)) (m_law08_lives : Option (Bool)) (c : T_api_Config) (a : T_assartlaw08_Act) (i_ : Int) (c2 : T_layout_Layout) (w : List Int) (w2 : List Int) (K : V → Heap → Prop) (J1 : Env → Heap → Prop) : (ex (cfg_law08_ChunkOnly m_law08_Begin m_law08_ChunkOnly_1 m_layout_Layout_Chunks m_layout_Layout_Table m_law01_Ints_Same m_law08_lives) (⟨72, 0⟩ : Cx) (at_ (bodyOf Try.f5) [1, 1, 1, 1, 1, 0, 1, 0, 0]) (mkEnv [(5, .ptr 0 0), (7, .row 1), (9, .row 2), (12, vi (i_))]) [.cells 28 (e_layout_Layout c2), .row 0 (w : List (Int)) Bool.false, .row 0 (w2 : List (Int)) Bool.false] (roundK (cfg_law08_ChunkOnly m_law08_Begin m_law08_ChunkOnly_1 m_layout_Layout_Chunks m_layout_Layout_Table m_law01_Ints_Same m_law08_lives) (⟨72, 0⟩ : Cx) (at_ (bodyOf Try.f5) [1, 1, 1, 1, 1, 0, 1, 0, 0]) (contK (cfg_law08_ChunkOnly m_law08_Begin m_law08_ChunkOnly_1 m_layout_Layout_Chunks m_layout_Layout_Table m_law01_Ints_Same m_law08_lives) (⟨72, 0⟩ : Cx) (bodyOf Try.f5) [1, 1, 1, 1, 1, 0, 1, 0] (retK (cfg_law08_ChunkOnly m_law08_Begin m_law08_ChunkOnly_1 m_layout_Layout_Chunks m_layout_Layout_Table m_law01_Ints_Same m_law08_lives) Try.f5 0 K)) J1)) = (
    So (m_layout_Layout_Chunks c2) (fun (y0 : Int) => (br (Decidable.decide (i_ < y0)) (So (m_layout_Layout_Table c2 i_) (fun (y1 : Int) => (So (m_layout_Layout_Table c2 i_) (fun (y2 : Int) => (Req (inR y2 (List.length w)) (Req (inR (offs y2 0) (List.length w)) (Req (inR y1 (List.length w2)) (False)))))))) (So (m_law01_Ints_Same w2 w) (fun (y3 : Bool) => (br (y3) (So (m_law08_lives) (fun (y4 : Bool) => (K (vb (y4)) []))) (K (vb (Bool.false)) []))))))) := by
  kernel_rfl

theorem nf_law08_ChunkOnly_L1 (m_law08_Begin : T_api_Config → Option (T_layout_Layout × T_assartref02_Layout × (List Int))) (m_law08_ChunkOnly_1 : Nat → (List Int) → T_layout_Layout → T_assartlaw08_Act → Option ((List Int))) (m_layout_Layout_Chunks : T_layout_Layout → Option (Int)) (m_layout_Layout_Table : T_layout_Layout → Int → Option (Int)) (m_law01_Ints_Same : (List Int) → (List Int) → Option (Bool)) (m_law08_lives : Option (Bool)) (c : T_api_Config) (a : T_assartlaw08_Act) (i_ : Int) (c2 : T_layout_Layout) (w : List Int) (K : V → Heap → Prop) (J1 : Env → Heap → Prop) : (ex (cfg_law08_ChunkOnly m_law08_Begin m_law08_ChunkOnly_1 m_layout_Layout_Chunks m_layout_Layout_Table m_law01_Ints_Same m_law08_lives) (⟨72, 0⟩ : Cx) (at_ (bodyOf Try.f5) [1, 1, 0, 1, 0, 0]) (mkEnv [(3, .ptr 0 0), (5, .ptr 1 0), (7, .row 2), (8, vi (i_))]) [.cells 41 (e_assartlaw08_Act a), .cells 28 (e_layout_Layout c2), .row 0 (w : List (Int)) Bool.false] (roundK (cfg_law08_ChunkOnly m_law08_Begin m_law08_ChunkOnly_1 m_layout_Layout_Chunks m_layout_Layout_Table m_law01_Ints_Same m_law08_lives) (⟨72, 0⟩ : Cx) (at_ (bodyOf Try.f5) [1, 1, 0, 1, 0, 0]) (contK (cfg_law08_ChunkOnly m_law08_Begin m_law08_ChunkOnly_1 m_layout_Layout_Chunks m_layout_Layout_Table m_law01_Ints_Same m_law08_lives) (⟨72, 0⟩ : Cx) (bodyOf Try.f5) [1, 1, 0, 1, 0] (retK (cfg_law08_ChunkOnly m_law08_Begin m_law08_ChunkOnly_1 m_layout_Layout_Chunks m_layout_Layout_Table m_law01_Ints_Same m_law08_lives) Try.f5 0 K)) J1)) = (
    br (Decidable.decide (i_ < (↑(List.length w) : Int))) (Req (inR i_ (List.length w)) (Req (inR (offs i_ 0) (List.length w)) (J1 (mkEnv [(3, .ptr 0 0), (5, .ptr 1 0), (7, .row 2), (8, vi (IntKind.wrap IntKind.i64 (i_ + 1)))]) [.cells 41 (e_assartlaw08_Act a), .cells 28 (e_layout_Layout c2), .row 0 (List.set w (Int.toNat (offs i_ 0)) (IntKind.wrap IntKind.i64 (Int.tmod i_ 2 + Int.tmod i_ 3)) : List (Int)) Bool.false]))) (Req (Nat.ble (List.length w) 1048576) (So (m_law08_ChunkOnly_1 (List.length w) w c2 a) (fun (y0 : List Int) => ((∀ (y1 : List Pr), (br ((↑(List.length y0) : Int) != (↑(List.length w) : Int)) (K (vb (Bool.false)) []) (Loop (cfg_law08_ChunkOnly m_law08_Begin m_law08_ChunkOnly_1 m_layout_Layout_Chunks m_layout_Layout_Table m_law01_Ints_Same m_law08_lives) (⟨72, 0⟩ : Cx) (at_ (bodyOf Try.f5) [1, 1, 1, 1, 1, 0, 1, 0, 0]) (mkEnv [(5, .ptr 0 0), (7, .row 1), (9, .row 2), (12, vi (0))]) [.cells 28 (e_layout_Layout c2), .row 0 (w : List (Int)) Bool.false, .row 0 (y0 : List (Int)) Bool.false] (contK (cfg_law08_ChunkOnly m_law08_Begin m_law08_ChunkOnly_1 m_layout_Layout_Chunks m_layout_Layout_Table m_law01_Ints_Same m_law08_lives) (⟨72, 0⟩ : Cx) (bodyOf Try.f5) [1, 1, 1, 1, 1, 0, 1, 0] (retK (cfg_law08_ChunkOnly m_law08_Begin m_law08_ChunkOnly_1 m_layout_Layout_Chunks m_layout_Layout_Table m_law01_Ints_Same m_law08_lives) Try.f5 0 K)))))))))) := by
  kernel_rfl

theorem nf_law08_ChunkOnly (m_law08_Begin : T_api_Config → Option (T_layout_Layout × T_assartref02_Layout × (List Int))) (m_law08_ChunkOnly_1 : Nat → (List Int) → T_layout_Layout → T_assartlaw08_Act → Option ((List Int))) (m_layout_Layout_Chunks : T_layout_Layout → Option (Int)) (m_layout_Layout_Table : T_layout_Layout → Int → Option (Int)) (m_law01_Ints_Same : (List Int) → (List Int) → Option (Bool)) (m_law08_lives : Option (Bool)) (c : T_api_Config) (a : T_assartlaw08_Act) (K : V → Heap → Prop) : (exF (cfg_law08_ChunkOnly m_law08_Begin m_law08_ChunkOnly_1 m_layout_Layout_Chunks m_layout_Layout_Table m_law01_Ints_Same m_law08_lives) Try.f5 [.agg (e_api_Config c), .agg (e_assartlaw08_Act a)] [] K) = (
    So (m_law08_Begin c) (fun (y0 : T_layout_Layout × T_assartref02_Layout × List Int) => (Loop (cfg_law08_ChunkOnly m_law08_Begin m_law08_ChunkOnly_1 m_layout_Layout_Chunks m_layout_Layout_Table m_law01_Ints_Same m_law08_lives) (⟨72, 0⟩ : Cx) (at_ (bodyOf Try.f5) [1, 1, 0, 1, 0, 0]) (mkEnv [(3, .ptr 0 0), (5, .ptr 1 0), (7, .row 2), (8, vi (0))]) [.cells 41 (e_assartlaw08_Act a), .cells 28 (e_layout_Layout (Prod.fst y0)), .row 0 (Prod.snd (Prod.snd y0) : List (Int)) Bool.false] (contK (cfg_law08_ChunkOnly m_law08_Begin m_law08_ChunkOnly_1 m_layout_Layout_Chunks m_layout_Layout_Table m_law01_Ints_Same m_law08_lives) (⟨72, 0⟩ : Cx) (bodyOf Try.f5) [1, 1, 0, 1, 0] (retK (cfg_law08_ChunkOnly m_law08_Begin m_law08_ChunkOnly_1 m_layout_Layout_Chunks m_layout_Layout_Table m_law01_Ints_Same m_law08_lives) Try.f5 0 K))))) := by
  kernel_rfl

noncomputable def m_law08_lives  : Option (Bool) :=
  ((m_law08_Begin (T_api_Config.mk 0 0 4 0 0 0 0 0 0 0 0)).bind fun y0 => ((m_layout_Layout_Config (Prod.fst y0)).bind fun y1 => ((m_layout_Of (T_api_Config.mk (T_api_Config.Workers y1) (T_api_Config.CPUs y1) 5 (T_api_Config.Stripes y1) (T_api_Config.Tries y1) (T_api_Config.Wait y1) (T_api_Config.Clock y1) (T_api_Config.Private y1) (T_api_Config.Cache y1) (T_api_Config.Bin y1) (T_api_Config.Batch y1))).bind fun y2 => ((m_layout_Layout_Words (Prod.fst y2)).bind fun y3 => (bif (Decidable.decide (0 ≤ y3 ∧ y3 ≤ y3 ∧ y3 ≤ 1048576)) then (bif (Nat.ble (List.length (List.replicate (Int.toNat y3) (0 : Int))) (1048576 : Nat)) then ((m_law08_lives_1 (List.length (List.replicate (Int.toNat y3) (0 : Int))) (List.replicate (Int.toNat y3) (0 : Int)) (Prod.fst y2) (0 : Int)).bind fun y4 => (bif (Prod.snd y2 == 0) then (bif (Prod.snd y4 == 5) then (bif ((↑(List.length (Prod.fst y4)) : Int) == (↑(List.length (List.replicate (Int.toNat y3) (0 : Int))) : Int)) then ((m_layout_Layout_Table (Prod.fst y2) 1).bind fun y6 => (bif (inR y6 (List.length (Prod.fst y4))) then (bif (inR (offs y6 0) (List.length (Prod.fst y4))) then some ((List.getD (Prod.fst y4) (Int.toNat (offs y6 0)) 0 == 1)) else none) else none)) else some ((Bool.false))) else some ((Bool.false))) else some ((Bool.false)))) else none) else none)))))

noncomputable def sb_law08_ChunkPlays_L1 (acts : List (List Int)) (c2 : T_layout_Layout) (c3 : T_assartref02_Layout) (w : List Int) (w2 : List Int) (c4 : Int) : Option (((List Int) × (List Int) × Int) ⊕ (Bool)) :=
  (bif (Decidable.decide (c4 < (↑(List.length acts) : Int))) then (bif (Nat.ble (List.length w) 1048576) then ((m_law08_ChunkPlays_1 (List.length w) w c2 c4 0 acts).bind fun y0 => (bif (inR c4 (List.length acts)) then (bif (inR (offs c4 0) (List.length acts)) then ((m_law08_told c3 (T_assartlaw08_Act.mk (List.getD (List.getD acts (Int.toNat (offs c4 (0 : Nat))) (List.replicate (3 : Nat) (0 : Int))) (0 : Nat) (0 : Int)) (List.getD (List.getD acts (Int.toNat (offs c4 (0 : Nat))) (List.replicate (3 : Nat) (0 : Int))) (1 : Nat) (0 : Int)) (List.getD (List.getD acts (Int.toNat (offs c4 (0 : Nat))) (List.replicate (3 : Nat) (0 : Int))) (2 : Nat) (0 : Int))) w2).bind fun y2 => (bif (Prod.snd y0 != Prod.fst y2) then some (.inr ((Bool.false))) else ((m_law01_Ints_Same (Prod.fst y0) (Prod.snd y2)).bind fun y3 => (bif (!y3) then some (.inr ((Bool.false))) else some (.inl ((Prod.fst y0), (Prod.snd y2), (IntKind.wrap IntKind.i64 (c4 + 1)))))))) else none) else none)) else none) else ((m_law08_lives).bind fun y4 => some (.inr ((y4)))))

noncomputable def lp_law08_ChunkPlays_L1 (acts : List (List Int)) (c2 : T_layout_Layout) (c3 : T_assartref02_Layout) (s : (List Int) × (List Int) × Int) : Option (Bool) :=
  loopO (fun s => sb_law08_ChunkPlays_L1 acts c2 c3 s.1 s.2.1 s.2.2) s

noncomputable def m_law08_ChunkPlays (c : T_api_Config) (acts : List (List Int)) : Option (Bool) :=
  (bif (Decidable.decide ((↑(List.length acts) : Int) > 100)) then ((m_law08_lives).bind fun y0 => some ((y0))) else ((m_law08_Begin c).bind fun y1 => (bif (Decidable.decide (0 + List.length (Prod.snd (Prod.snd y1)) ≤ 1048576)) then (lp_law08_ChunkPlays_L1 acts (Prod.fst y1) (Prod.fst (Prod.snd y1)) ((Prod.snd (Prod.snd y1)), (Prod.snd (Prod.snd y1)), (0))) else none)))

noncomputable def m_law08_ChunkCounted (c : T_api_Config) (p : Int) (n : Int) (acts : List (List Int)) : Option (Bool) :=
  (bif (Decidable.decide ((↑(List.length acts) : Int) > 60)) then ((m_law08_lives).bind fun y0 => some ((y0))) else ((m_law08_Begin c).bind fun y1 => (bif (Nat.ble (List.length (Prod.snd (Prod.snd y1))) 1048576) then ((m_law08_ChunkCounted_1 (List.length (Prod.snd (Prod.snd y1))) (Prod.snd (Prod.snd y1)) Bool.true (Prod.fst y1) p n acts).bind fun y2 => (bif (Prod.snd y2) then ((m_law08_lives).bind fun y4 => some ((y4))) else some ((Bool.false)))) else none)))

noncomputable def sb_law08_ChunkOnly_L2 (i_ : Int) (c2 : T_layout_Layout) (w : List Int) (w2 : List Int)  : Option ((Unit) ⊕ (Bool)) :=
  ((m_layout_Layout_Chunks c2).bind fun y0 => (bif (Decidable.decide (i_ < y0)) then ((m_layout_Layout_Table c2 i_).bind fun y1 => ((m_layout_Layout_Table c2 i_).bind fun y2 => (bif (inR y2 (List.length w)) then (bif (inR (offs y2 0) (List.length w)) then (bif (inR y1 (List.length w2)) then none else none) else none) else none))) else ((m_law01_Ints_Same w2 w).bind fun y3 => (bif (y3) then ((m_law08_lives).bind fun y4 => some (.inr ((y4)))) else some (.inr ((Bool.false)))))))

noncomputable def lp_law08_ChunkOnly_L2 (i_ : Int) (c2 : T_layout_Layout) (w : List Int) (w2 : List Int) (s : Unit) : Option (Bool) :=
  loopO (fun s => sb_law08_ChunkOnly_L2 i_ c2 w w2) s

noncomputable def sb_law08_ChunkOnly_L1 (a : T_assartlaw08_Act) (c2 : T_layout_Layout) (i_ : Int) (w : List Int) : Option ((Int × (List Int)) ⊕ (Bool)) :=
  (bif (Decidable.decide (i_ < (↑(List.length w) : Int))) then (bif (inR i_ (List.length w)) then (bif (inR (offs i_ 0) (List.length w)) then some (.inl ((IntKind.wrap IntKind.i64 (i_ + 1)), (List.set w (Int.toNat (offs i_ 0)) (IntKind.wrap IntKind.i64 (Int.tmod i_ 2 + Int.tmod i_ 3))))) else none) else none) else (bif (Nat.ble (List.length w) 1048576) then ((m_law08_ChunkOnly_1 (List.length w) w c2 a).bind fun y0 => (bif ((↑(List.length y0) : Int) != (↑(List.length w) : Int)) then some (.inr ((Bool.false))) else ((lp_law08_ChunkOnly_L2 (0) (c2) (w) (y0) ()).bind fun z => some (.inr z)))) else none))

noncomputable def lp_law08_ChunkOnly_L1 (a : T_assartlaw08_Act) (c2 : T_layout_Layout) (s : Int × (List Int)) : Option (Bool) :=
  loopO (fun s => sb_law08_ChunkOnly_L1 a c2 s.1 s.2) s

noncomputable def m_law08_ChunkOnly (c : T_api_Config) (a : T_assartlaw08_Act) : Option (Bool) :=
  ((m_law08_Begin c).bind fun y0 => (lp_law08_ChunkOnly_L1 a (Prod.fst y0) ((0), (Prod.snd (Prod.snd y0)))))

attribute [local irreducible] Loop ex exF contK roundK retK at_ bodyOf mkEnv
theorem ok_law08_lives : SpecOK Try.prog elTT 14 (sp_law08_lives m_law08_lives) := by
  refine spec_of_exF (cfg := (cfg_law08_lives m_law08_Begin m_layout_Layout_Config m_layout_Of m_layout_Layout_Words m_law08_lives_1 m_layout_Layout_Table)) (cfg_ok rfl rfl rfl) (sig_cons ok_law08_Begin (sig_cons ok_layout_Layout_Config (sig_cons ok_layout_Of (sig_cons ok_layout_Layout_Words (sig_cons (okdo_law08_lives_1 ok_law08_lives_1) (sig_cons ok_layout_Layout_Table sig_nil)))))) (fn := Try.f14) (by kernel_rfl) (by kernel_rfl) (by kernel_rfl) ?_
  intro args H K h
  change tr_law08_lives m_law08_lives args H K at h
  unfold tr_law08_lives at h
  replace h := aN_el h
  obtain ⟨rfl, h⟩ := h
  replace h := aN_el h
  obtain ⟨rfl, h⟩ := h
  refine Eq.mpr (nf_law08_lives m_law08_Begin m_layout_Layout_Config m_layout_Of m_layout_Layout_Words m_law08_lives_1 m_layout_Layout_Table  K) ?_
  unfold m_law08_lives at h
  revert h
  exact bind_So fun y0 => bind_So fun y1 => bind_So fun y2 => bind_So fun y3 => req_So (req_So (bind_So fun y4 => all_So fun y5 => br_So (br_So (br_So (bind_So fun y6 => req_So (req_So (fun h => h))) (fun h => h)) (fun h => h)) (fun h => h)))

theorem lpok_law08_ChunkPlays_L1 (c : T_api_Config) (acts : List (List Int)) (c2 : T_layout_Layout) (c3 : T_assartref02_Layout) (w : List Int) (w2 : List Int) (c4 : Int) (K : V → Heap → Prop) : So (lp_law08_ChunkPlays_L1 (acts) (c2) (c3) (w, w2, c4)) (fun (x : Bool) => K (vb (x)) [.row 6 acts true]) → Loop (cfg_law08_ChunkPlays m_law08_lives m_law08_Begin m_law08_ChunkPlays_1 m_law08_told m_law01_Ints_Same) (⟨64, 1⟩ : Cx) (at_ (bodyOf Try.f3) [1, 1, 1, 1, 0, 1, 0, 0]) (mkEnv [(3, .ptr 1 0), (5, .ptr 2 0), (6, .ptr 3 0), (7, .row 4), (8, .row 5), (9, .ptr 6 0)]) [.row 6 (acts : List (List Int)) Bool.true, .cells 24 [.row 0], .cells 28 (e_layout_Layout c2), .cells 30 (e_api_Config (T_assartref02_Layout.C c3)), .row 0 (w : List (Int)) Bool.false, .row 0 (w2 : List (Int)) Bool.false, .cells 3 [vi (c4)]] (contK (cfg_law08_ChunkPlays m_law08_lives m_law08_Begin m_law08_ChunkPlays_1 m_law08_told m_law01_Ints_Same) (⟨64, 1⟩ : Cx) (bodyOf Try.f3) [1, 1, 1, 1, 0, 1, 0] (retK (cfg_law08_ChunkPlays m_law08_lives m_law08_Begin m_law08_ChunkPlays_1 m_law08_told m_law01_Ints_Same) Try.f3 1 K)) := by
  refine loopK_So (fun (s_ : (List Int) × (List Int) × Int) => (mkEnv [(3, .ptr 1 0), (5, .ptr 2 0), (6, .ptr 3 0), (7, .row 4), (8, .row 5), (9, .ptr 6 0)])) (fun (s_ : (List Int) × (List Int) × Int) => [.row 6 (acts : List (List Int)) Bool.true, .cells 24 [.row 0], .cells 28 (e_layout_Layout c2), .cells 30 (e_api_Config (T_assartref02_Layout.C c3)), .row 0 ((s_.1) : List (Int)) Bool.false, .row 0 ((s_.2.1) : List (Int)) Bool.false, .cells 3 [vi ((s_.2.2))]]) (fun (x : Bool) => K (vb (x)) [.row 6 acts true]) ?_ (w, w2, c4)
  intro s_ J1 h
  clear w
  clear w2
  clear c4
  obtain ⟨w, w2, c4⟩ := s_
  refine Eq.mpr (nf_law08_ChunkPlays_L1 m_law08_lives m_law08_Begin m_law08_ChunkPlays_1 m_law08_told m_law01_Ints_Same c acts c2 c3 w w2 c4 K J1) ?_
  have h : So (sb_law08_ChunkPlays_L1 (acts) (c2) (c3) w w2 c4) _ := h
  unfold sb_law08_ChunkPlays_L1 at h
  revert h
  exact br_So (req_So (bind_So fun y0 => all_So fun y1 => req_So (req_So (bind_So fun y2 => br_So (fun h => h) (bind_So fun y3 => br_So (fun h => h) (fun h => h)))))) (bind_So fun y4 => fun h => h)

theorem ok_law08_ChunkPlays : SpecOK Try.prog elTT 3 (sp_law08_ChunkPlays m_law08_ChunkPlays) := by
  refine spec_of_exF (cfg := (cfg_law08_ChunkPlays m_law08_lives m_law08_Begin m_law08_ChunkPlays_1 m_law08_told m_law01_Ints_Same)) (cfg_ok rfl rfl rfl) (sig_cons ok_law08_lives (sig_cons ok_law08_Begin (sig_cons (okdo_law08_ChunkPlays_1 ok_law08_ChunkPlays_1) (sig_cons ok_law08_told (sig_cons ok_law01_Ints_Same sig_nil))))) (fn := Try.f3) (by kernel_rfl) (by kernel_rfl) (by kernel_rfl) ?_
  intro args H K h
  change tr_law08_ChunkPlays m_law08_ChunkPlays args H K at h
  unfold tr_law08_ChunkPlays at h
  replace h := aC_el h
  obtain ⟨a0, _, rfl, h⟩ := h
  replace h := aC_el h
  obtain ⟨a1, _, rfl, h⟩ := h
  replace h := aN_el h
  obtain ⟨rfl, h⟩ := h
  replace h := aAgg_el h
  obtain ⟨c0, rfl, h⟩ := h
  replace h := d_api_Config_el h
  obtain ⟨c, rfl, h⟩ := h
  replace h := aRow_el h
  obtain ⟨rfl, h⟩ := h
  replace h := aC_el h
  obtain ⟨b0, _, rfl, h⟩ := h
  replace h := aN_el h
  obtain ⟨rfl, h⟩ := h
  replace h := bRow_el h
  obtain ⟨(acts : List (List Int)), rfl, h⟩ := h
  refine Eq.mpr (nf_law08_ChunkPlays m_law08_lives m_law08_Begin m_law08_ChunkPlays_1 m_law08_told m_law01_Ints_Same c acts K) ?_
  unfold m_law08_ChunkPlays at h
  revert h
  exact br_So (bind_So fun y0 => fun h => h) (bind_So fun y1 => req_So (lpok_law08_ChunkPlays_L1 c acts (Prod.fst y1) (Prod.fst (Prod.snd y1)) (Prod.snd (Prod.snd y1)) (Prod.snd (Prod.snd y1)) (0) K))

theorem ok_law08_ChunkCounted : SpecOK Try.prog elTT 4 (sp_law08_ChunkCounted m_law08_ChunkCounted) := by
  refine spec_of_exF (cfg := (cfg_law08_ChunkCounted m_law08_lives m_law08_Begin m_law08_ChunkCounted_1)) (cfg_ok rfl rfl rfl) (sig_cons ok_law08_lives (sig_cons ok_law08_Begin (sig_cons (okdo_law08_ChunkCounted_1 ok_law08_ChunkCounted_1) sig_nil))) (fn := Try.f4) (by kernel_rfl) (by kernel_rfl) (by kernel_rfl) ?_
  intro args H K h
  change tr_law08_ChunkCounted m_law08_ChunkCounted args H K at h
  unfold tr_law08_ChunkCounted at h
  replace h := aC_el h
  obtain ⟨a0, _, rfl, h⟩ := h
  replace h := aC_el h
  obtain ⟨a1, _, rfl, h⟩ := h
  replace h := aC_el h
  obtain ⟨a2, _, rfl, h⟩ := h
  replace h := aC_el h
  obtain ⟨a3, _, rfl, h⟩ := h
  replace h := aN_el h
  obtain ⟨rfl, h⟩ := h
  replace h := aAgg_el h
  obtain ⟨c0, rfl, h⟩ := h
  replace h := d_api_Config_el h
  obtain ⟨c, rfl, h⟩ := h
  replace h := aRow_el h
  obtain ⟨rfl, h⟩ := h
  replace h := aInt_el h
  obtain ⟨p, rfl, h⟩ := h
  replace h := aInt_el h
  obtain ⟨n, rfl, h⟩ := h
  replace h := aC_el h
  obtain ⟨b0, _, rfl, h⟩ := h
  replace h := aN_el h
  obtain ⟨rfl, h⟩ := h
  replace h := bRow_el h
  obtain ⟨(acts : List (List Int)), rfl, h⟩ := h
  refine Eq.mpr (nf_law08_ChunkCounted m_law08_lives m_law08_Begin m_law08_ChunkCounted_1 c p n acts K) ?_
  unfold m_law08_ChunkCounted at h
  revert h
  exact br_So (bind_So fun y0 => fun h => h) (bind_So fun y1 => req_So (bind_So fun y2 => all_So fun y3 => br_So (bind_So fun y4 => fun h => h) (fun h => h)))

theorem lpok_law08_ChunkOnly_L2 (c : T_api_Config) (a : T_assartlaw08_Act) (i_ : Int) (c2 : T_layout_Layout) (w : List Int) (w2 : List Int) (K : V → Heap → Prop) : So (lp_law08_ChunkOnly_L2 (i_) (c2) (w) (w2) ()) (fun (x : Bool) => K (vb (x)) []) → Loop (cfg_law08_ChunkOnly m_law08_Begin m_law08_ChunkOnly_1 m_layout_Layout_Chunks m_layout_Layout_Table m_law01_Ints_Same m_law08_lives) (⟨72, 0⟩ : Cx) (at_ (bodyOf Try.f5) [1, 1, 1, 1, 1, 0, 1, 0, 0]) (mkEnv [(5, .ptr 0 0), (7, .row 1), (9, .row 2), (12, vi (i_))]) [.cells 28 (e_layout_Layout c2), .row 0 (w : List (Int)) Bool.false, .row 0 (w2 : List (Int)) Bool.false] (contK (cfg_law08_ChunkOnly m_law08_Begin m_law08_ChunkOnly_1 m_layout_Layout_Chunks m_layout_Layout_Table m_law01_Ints_Same m_law08_lives) (⟨72, 0⟩ : Cx) (bodyOf Try.f5) [1, 1, 1, 1, 1, 0, 1, 0] (retK (cfg_law08_ChunkOnly m_law08_Begin m_law08_ChunkOnly_1 m_layout_Layout_Chunks m_layout_Layout_Table m_law01_Ints_Same m_law08_lives) Try.f5 0 K)) := by
  refine loopK_So (fun (s_ : Unit) => (mkEnv [(5, .ptr 0 0), (7, .row 1), (9, .row 2), (12, vi (i_))])) (fun (s_ : Unit) => [.cells 28 (e_layout_Layout c2), .row 0 (w : List (Int)) Bool.false, .row 0 (w2 : List (Int)) Bool.false]) (fun (x : Bool) => K (vb (x)) []) ?_ ()
  intro s_ J1 h
  refine Eq.mpr (nf_law08_ChunkOnly_L2 m_law08_Begin m_law08_ChunkOnly_1 m_layout_Layout_Chunks m_layout_Layout_Table m_law01_Ints_Same m_law08_lives c a i_ c2 w w2 K J1) ?_
  have h : So (sb_law08_ChunkOnly_L2 (i_) (c2) (w) (w2) ) _ := h
  unfold sb_law08_ChunkOnly_L2 at h
  revert h
  exact bind_So fun y0 => br_So (bind_So fun y1 => bind_So fun y2 => req_So (req_So (req_So (fun h => h)))) (bind_So fun y3 => br_So (bind_So fun y4 => fun h => h) (fun h => h))

theorem lpok_law08_ChunkOnly_L1 (c : T_api_Config) (a : T_assartlaw08_Act) (i_ : Int) (c2 : T_layout_Layout) (w : List Int) (K : V → Heap → Prop) : So (lp_law08_ChunkOnly_L1 (a) (c2) (i_, w)) (fun (x : Bool) => K (vb (x)) []) → Loop (cfg_law08_ChunkOnly m_law08_Begin m_law08_ChunkOnly_1 m_layout_Layout_Chunks m_layout_Layout_Table m_law01_Ints_Same m_law08_lives) (⟨72, 0⟩ : Cx) (at_ (bodyOf Try.f5) [1, 1, 0, 1, 0, 0]) (mkEnv [(3, .ptr 0 0), (5, .ptr 1 0), (7, .row 2), (8, vi (i_))]) [.cells 41 (e_assartlaw08_Act a), .cells 28 (e_layout_Layout c2), .row 0 (w : List (Int)) Bool.false] (contK (cfg_law08_ChunkOnly m_law08_Begin m_law08_ChunkOnly_1 m_layout_Layout_Chunks m_layout_Layout_Table m_law01_Ints_Same m_law08_lives) (⟨72, 0⟩ : Cx) (bodyOf Try.f5) [1, 1, 0, 1, 0] (retK (cfg_law08_ChunkOnly m_law08_Begin m_law08_ChunkOnly_1 m_layout_Layout_Chunks m_layout_Layout_Table m_law01_Ints_Same m_law08_lives) Try.f5 0 K)) := by
  refine loopK_So (fun (s_ : Int × (List Int)) => (mkEnv [(3, .ptr 0 0), (5, .ptr 1 0), (7, .row 2), (8, vi ((s_.1)))])) (fun (s_ : Int × (List Int)) => [.cells 41 (e_assartlaw08_Act a), .cells 28 (e_layout_Layout c2), .row 0 ((s_.2) : List (Int)) Bool.false]) (fun (x : Bool) => K (vb (x)) []) ?_ (i_, w)
  intro s_ J1 h
  clear i_
  clear w
  obtain ⟨i_, w⟩ := s_
  refine Eq.mpr (nf_law08_ChunkOnly_L1 m_law08_Begin m_law08_ChunkOnly_1 m_layout_Layout_Chunks m_layout_Layout_Table m_law01_Ints_Same m_law08_lives c a i_ c2 w K J1) ?_
  have h : So (sb_law08_ChunkOnly_L1 (a) (c2) i_ w) _ := h
  unfold sb_law08_ChunkOnly_L1 at h
  revert h
  exact br_So (req_So (req_So (fun h => h))) (req_So (bind_So fun y0 => all_So fun y1 => br_So (fun h => h) (mapK_So (lpok_law08_ChunkOnly_L2 c a (0) (c2) (w) (y0) K))))

theorem ok_law08_ChunkOnly : SpecOK Try.prog elTT 5 (sp_law08_ChunkOnly m_law08_ChunkOnly) := by
  refine spec_of_exF (cfg := (cfg_law08_ChunkOnly m_law08_Begin m_law08_ChunkOnly_1 m_layout_Layout_Chunks m_layout_Layout_Table m_law01_Ints_Same m_law08_lives)) (cfg_ok rfl rfl rfl) (sig_cons ok_law08_Begin (sig_cons (okdo_law08_ChunkOnly_1 ok_law08_ChunkOnly_1) (sig_cons ok_layout_Layout_Chunks (sig_cons ok_layout_Layout_Table (sig_cons ok_law01_Ints_Same (sig_cons ok_law08_lives sig_nil)))))) (fn := Try.f5) (by kernel_rfl) (by kernel_rfl) (by kernel_rfl) ?_
  intro args H K h
  change tr_law08_ChunkOnly m_law08_ChunkOnly args H K at h
  unfold tr_law08_ChunkOnly at h
  replace h := aC_el h
  obtain ⟨a0, _, rfl, h⟩ := h
  replace h := aC_el h
  obtain ⟨a1, _, rfl, h⟩ := h
  replace h := aN_el h
  obtain ⟨rfl, h⟩ := h
  replace h := aAgg_el h
  obtain ⟨c0, rfl, h⟩ := h
  replace h := d_api_Config_el h
  obtain ⟨c, rfl, h⟩ := h
  replace h := aAgg_el h
  obtain ⟨c1, rfl, h⟩ := h
  replace h := d_assartlaw08_Act_el h
  obtain ⟨a, rfl, h⟩ := h
  replace h := aN_el h
  obtain ⟨rfl, h⟩ := h
  refine Eq.mpr (nf_law08_ChunkOnly m_law08_Begin m_law08_ChunkOnly_1 m_layout_Layout_Chunks m_layout_Layout_Table m_law01_Ints_Same m_law08_lives c a K) ?_
  unfold m_law08_ChunkOnly at h
  revert h
  exact bind_So fun y0 => lpok_law08_ChunkOnly_L1 c a (0) (Prod.fst y0) (Prod.snd (Prod.snd y0)) K

end Go.Rx
end

section
/- The laws of chapter 8, plainly. -/
namespace Go.Rx
open Go.Proofs

def I64 (x : Int) : Prop := -9223372036854775808 ≤ x ∧ x ≤ 9223372036854775807

theorem Small_eq (c : T_api_Config) : ∃ d, m_law08_Small c = some d ∧ RightC d := by
  obtain ⟨d, h1, h2⟩ := Some_eq c
  unfold m_law08_Small
  rw [h1, Option.bind_some]
  refine ⟨_, rfl, ?_⟩
  obtain ⟨a, b, d', e, f, g, h', i, j, k, l⟩ := h2
  have md : ∀ x m : Int, 0 ≤ x → 0 < m → m ≤ 10 → Int.tmod x m = x % m ∧ 0 ≤ x % m ∧ x % m < m := fun x m h1 h2 h3 => ⟨Int.tmod_eq_emod_of_nonneg h1, Int.emod_nonneg _ (by omega), Int.emod_lt_of_pos _ h2⟩
  have m1 := md d.Workers 4 (by omega) (by omega) (by omega)
  have m2 := md d.CPUs 2 (by omega) (by omega) (by omega)
  have m3 := md d.Pages 9 (by omega) (by omega) (by omega)
  have m4 := md d.Stripes 4 (by omega) (by omega) (by omega)
  have m5 := md d.Private 3 (by omega) (by omega) (by omega)
  have m6 := md d.Cache 3 (by omega) (by omega) (by omega)
  have m7 := md d.Bin 4 (by omega) (by omega) (by omega)
  have m8 := md d.Batch 3 (by omega) (by omega) (by omega)
  simp only [m1.1, m2.1, m3.1, m4.1, m5.1, m6.1, m7.1, m8.1]
  simp (disch := omega) only [wrap_id]
  exact ⟨by simp only; omega, by simp only; omega, by simp only; omega, by simp only; omega, f, g, h', by simp only; omega, by simp only; omega, by simp only; omega, by simp only; omega⟩

theorem Begin_eq (c : T_api_Config) : ∃ d, RightC d ∧ m_law08_Begin c = some (layC d, ⟨d⟩, List.replicate (layC d).at_11.toNat 0) := by
  obtain ⟨d, h1, h2⟩ := Small_eq c
  have hb := (layC_ok h2).big; have h11 := (layC_ok h2).a11; have hp := (layC_ok h2).pages
  refine ⟨d, h2, ?_⟩
  unfold m_law08_Begin
  rw [h1, Option.bind_some, Of_eq, if_pos h2, Option.bind_some, rWords_eq h2, Option.bind_some, decide_eq_true (by omega)]
  rfl

theorem rep_VOK {L : T_layout_Layout} (h : LayOK L) : VOK L (List.replicate L.at_11.toNat (0 : Int)).length (List.replicate L.at_11.toNat 0) := by
  have hb := h.big; have h11 := h.a11; have hp := h.pages
  exact ⟨h, rfl, by simp; omega⟩
theorem VOK.le {L : T_layout_Layout} {nw : Nat} {cur : List Int} (v : VOK L nw cur) : 128 ≤ nw := by
  have hb := v.lay.big; have h11 := v.lay.a11; have hp := v.lay.pages; have := v.all
  omega

/-- What a step tells, and the words then. -/
def stepR (cur : List Int) (pg tb : Int) (a : T_assartlaw08_Act) : Int × List Int :=
  if a.Kind = 0 then ((bif turnB cur pg tb a.K 1 then 1 else 0), turnU cur pg tb a.K 1)
  else if a.Kind = 1 then ((bif turnB cur pg tb a.K 0 then 1 else 0), turnU cur pg tb a.K 0)
  else if a.Kind = 2 then ((bif isB cur pg tb a.K 1 then 1 else 0), cur)
  else if a.Kind = 3 then ((bif coversM cur pg tb a.K a.N then 1 else 0), cur)
  else if a.Kind = 4 then ensM cur pg tb a.K a.N
  else (countM cur pg tb, cur)

theorem done_eq {L : T_layout_Layout} {nw : Nat} {cur : List Int} (v : VOK L nw cur) {a : T_assartlaw08_Act} (ha : I64 a.K) : m_law08_done nw cur L a = some (stepR cur L.c.Pages L.at_0 a) := by
  unfold m_law08_done stepR
  simp only [Map_eq v, Unmap_eq v, Mapped_eq v, Covers_eq v ha, Ensure_eq v ha, cCount_eq v, Option.bind_some]
  by_cases h0 : a.Kind = 0
  · simp only [h0, beq_self_eq_true, cond_true, if_true]
    cases turnB cur L.c.Pages L.at_0 a.K 1 <;> rfl
  by_cases h1 : a.Kind = 1
  · have e : (a.Kind == 0) = false := by simp [h0]
    rw [e, cond_false, if_neg h0, if_pos h1, h1]
    cases turnB cur L.c.Pages L.at_0 a.K 0 <;> rfl
  by_cases h2 : a.Kind = 2
  · have e : (a.Kind == 0) = false := by simp [h0]
    have e1 : (a.Kind == 1) = false := by simp [h1]
    rw [e, cond_false, e1, cond_false, if_neg h0, if_neg h1, if_pos h2, h2]
    cases isB cur L.c.Pages L.at_0 a.K 1 <;> rfl
  by_cases h3 : a.Kind = 3
  · have e : (a.Kind == 0) = false := by simp [h0]
    have e1 : (a.Kind == 1) = false := by simp [h1]
    have e2 : (a.Kind == 2) = false := by simp [h2]
    rw [e, cond_false, e1, cond_false, e2, cond_false, if_neg h0, if_neg h1, if_neg h2, if_pos h3, h3]
    cases coversM cur L.c.Pages L.at_0 a.K a.N <;> rfl
  have e : (a.Kind == 0) = false := by simp [h0]
  have e1 : (a.Kind == 1) = false := by simp [h1]
  have e2 : (a.Kind == 2) = false := by simp [h2]
  have e3 : (a.Kind == 3) = false := by simp [h3]
  rw [e, cond_false, e1, cond_false, e2, cond_false, e3, cond_false, if_neg h0, if_neg h1, if_neg h2, if_neg h3]
  by_cases h4 : a.Kind = 4
  · rw [if_pos h4, h4]; rfl
  · have e4 : (a.Kind == 4) = false := by simp [h4]
    rw [e4, cond_false, if_neg h4]

theorem told_eq {c : T_api_Config} (h : RightC c) {w : List Int} (v : VOK (layC c) w.length w) (a : T_assartlaw08_Act) : m_law08_told ⟨c⟩ a w = some (stepR w c.Pages (layC c).at_0 a) := by
  unfold m_law08_told stepR
  simp only [rTurn_eq h v, rMapped_eq h v, rCovers_eq h v, rEnsure_eq h v, rCount8_eq h v, Option.bind_some]
  by_cases h0 : a.Kind = 0
  · simp only [h0, beq_self_eq_true, cond_true, if_true]
    cases turnB w c.Pages (layC c).at_0 a.K 1 <;> rfl
  by_cases h1 : a.Kind = 1
  · have e : (a.Kind == 0) = false := by simp [h0]
    rw [e, cond_false, if_neg h0, if_pos h1, h1]
    cases turnB w c.Pages (layC c).at_0 a.K 0 <;> rfl
  by_cases h2 : a.Kind = 2
  · have e : (a.Kind == 0) = false := by simp [h0]
    have e1 : (a.Kind == 1) = false := by simp [h1]
    rw [e, cond_false, e1, cond_false, if_neg h0, if_neg h1, if_pos h2, h2]
    cases isB w c.Pages (layC c).at_0 a.K 1 <;> rfl
  by_cases h3 : a.Kind = 3
  · have e : (a.Kind == 0) = false := by simp [h0]
    have e1 : (a.Kind == 1) = false := by simp [h1]
    have e2 : (a.Kind == 2) = false := by simp [h2]
    rw [e, cond_false, e1, cond_false, e2, cond_false, if_neg h0, if_neg h1, if_neg h2, if_pos h3, h3]
    cases coversM w c.Pages (layC c).at_0 a.K a.N <;> rfl
  have e : (a.Kind == 0) = false := by simp [h0]
  have e1 : (a.Kind == 1) = false := by simp [h1]
  have e2 : (a.Kind == 2) = false := by simp [h2]
  have e3 : (a.Kind == 3) = false := by simp [h3]
  rw [e, cond_false, e1, cond_false, e2, cond_false, e3, cond_false, if_neg h0, if_neg h1, if_neg h2, if_neg h3]
  by_cases h4 : a.Kind = 4
  · rw [if_pos h4, h4]; rfl
  · have e4 : (a.Kind == 4) = false := by simp [h4]
    rw [e4, cond_false, if_neg h4]

theorem stepR_len (cur : List Int) (pg tb : Int) (a : T_assartlaw08_Act) : (stepR cur pg tb a).2.length = cur.length := by
  unfold stepR ensM
  repeat' split
  all_goals simp only [turnU_len, ensG_len]

theorem lives08_eq : m_law08_lives = some true := by
  unfold m_law08_lives
  obtain ⟨d, hR, hB⟩ := Begin_eq (T_api_Config.mk 0 0 4 0 0 0 0 0 0 0 0)
  rw [hB, Option.bind_some, Config_eq, Option.bind_some, Of_eq]
  have hR' : RightC (T_api_Config.mk d.Workers d.CPUs 5 d.Stripes d.Tries d.Wait d.Clock d.Private d.Cache d.Bin d.Batch) :=
    ⟨hR.workers, hR.cpus, by simp only; omega, hR.stripes, hR.tries, hR.wait, hR.clock, hR.private_, hR.cache, hR.bin, hR.batch⟩
  have e0 : cOf (layC d) = d := rfl
  simp only [e0]
  rw [if_pos hR', Option.bind_some, Words_eq, Option.bind_some]
  have hL := layC_ok hR'
  have hP : (layC (T_api_Config.mk d.Workers d.CPUs 5 d.Stripes d.Tries d.Wait d.Clock d.Private d.Cache d.Bin d.Batch)).c.Pages = 5 := rfl
  simp only
  generalize layC (T_api_Config.mk d.Workers d.CPUs 5 d.Stripes d.Tries d.Wait d.Clock d.Private d.Cache d.Bin d.Batch) = L at *
  have hb := hL.big; have h11 := hL.a11
  have v := rep_VOK hL
  have hlen : (List.replicate L.at_11.toNat (0 : Int)).length = L.at_11.toNat := by simp
  rw [decide_eq_true (by omega), cond_true, Nat.ble_eq_true_of_le (by rw [hlen]; omega), cond_true]
  unfold m_law08_lives_1
  rw [Ensure_eq v (by omega), Option.bind_some, Option.bind_some]
  have ht := v.tab
  have htb := hL.a0; have hst := hL.stripes
  generalize hw : List.replicate L.at_11.toNat (0 : Int) = w at *
  have hw0 : ∀ j : Nat, w.getD j 0 = 0 := fun j => by rw [← hw]; simp [List.getD, List.getElem?_replicate]; split <;> rfl
  rw [hP]
  have hk : ensK 5 3 2 = 2 := by decide
  have ht0 : turnB w 5 L.at_0 0 1 = true := by unfold turnB; rw [hw0]; decide
  have hu0 : turnU w 5 L.at_0 0 1 = w.set L.at_0.toNat 1 := by unfold turnU; rw [ht0]; simp
  have ht1 : turnB (w.set L.at_0.toNat 1) 5 L.at_0 1 1 = true := by
    unfold turnB
    rw [List.getD, List.getElem?_set_ne (by omega)]
    have := hw0 (L.at_0 + 1).toNat
    rw [List.getD] at this
    rw [this]; decide
  have hu1 : turnU (w.set L.at_0.toNat 1) 5 L.at_0 1 1 = (w.set L.at_0.toNat 1).set (L.at_0 + 1).toNat 1 := by unfold turnU; rw [ht1]; simp
  have hE : ensM w 5 L.at_0 3 2 = (5, (w.set L.at_0.toNat 1).set (L.at_0 + 1).toNat 1) := by
    unfold ensM
    rw [hk]
    have e3 : (3 : Int) / 4 = 0 := by decide
    simp only [e3, ensG]
    simp only [Int.natCast_zero, Int.natCast_one, Int.add_zero, Int.zero_add, ht0, hu0, ht1, hu1, cond_true]
    have : pagesN 5 0 = 4 := by decide
    have h2 : pagesN 5 1 = 1 := by decide
    rw [this, h2]; rfl
  rw [hE]
  have hT : lTab L 1 = L.at_0 + 1 := by unfold lTab; rw [hP, if_pos (by decide)]
  have hin : inR (L.at_0 + 1) ((w.set L.at_0.toNat 1).set (L.at_0 + 1).toNat 1).length = true := inR_int (by omega) (by simp; omega)
  have ho : offs (L.at_0 + 1) 0 = L.at_0 + 1 := by
    have e : L.at_0 + 1 = (((L.at_0 + 1).toNat : Nat) : Int) := by omega
    rw [e]; rfl
  have hg : ((w.set L.at_0.toNat 1).set (L.at_0 + 1).toNat 1).getD (L.at_0 + 1).toNat 0 = 1 := by
    rw [List.getD, List.getElem?_set_self (by simp; omega)]; rfl
  simp only [beq_self_eq_true, cond_true, List.length_set, Table_eq hL, hT, Option.bind_some]
  simp only [List.length_set] at hin
  rw [hin, cond_true, ho, hin, cond_true, hg]; rfl

theorem act_len {acts : List (List Int)} (n : Nat) (h : n < acts.length) : acts.getD n (List.replicate 3 0) = acts[n] := by simp [List.getD, h]

theorem ChunkPlays_main (c : T_api_Config) (acts : List (List Int)) (ha : ∀ a ∈ acts, I64 (a.getD 1 0)) : m_law08_ChunkPlays c acts = some true := by
  unfold m_law08_ChunkPlays
  by_cases hl : (acts.length : Int) > 100
  · rw [decide_eq_true hl, cond_true, lives08_eq]; rfl
  rw [decide_eq_false hl, cond_false]
  obtain ⟨d, hR, hB⟩ := Begin_eq c
  have hL := layC_ok hR
  have hb := hL.big; have h11 := hL.a11; have hp := hL.pages
  rw [hB, Option.bind_some]
  have hlen : (List.replicate (layC d).at_11.toNat (0 : Int)).length = (layC d).at_11.toNat := by simp
  simp only
  rw [decide_eq_true (by rw [hlen]; omega), cond_true]
  obtain ⟨r, h1, rfl⟩ := loopO_ind (step := fun s : List Int × List Int × Int => sb_law08_ChunkPlays_L1 acts (layC d) ⟨d⟩ s.1 s.2.1 s.2.2)
    (I := fun s => ∃ n : Nat, n ≤ acts.length ∧ s.2.2 = n ∧ s.1 = s.2.1 ∧ s.1.length = (layC d).at_11.toNat) (μ := fun s => acts.length - s.2.2.toNat) (fun r => r = true) (by
      rintro ⟨w, w2, k⟩ ⟨n, hn, e1, e2, e3⟩
      simp only at e1 e2 e3
      subst e1; subst e2
      have v : VOK (layC d) w.length w := ⟨hL, rfl, by omega⟩
      simp only [sb_law08_ChunkPlays_L1]
      by_cases c1 : n < acts.length
      · have ho : offs (n : Int) 0 = (n : Int) := rfl
        have hmem : acts[n] ∈ acts := List.getElem_mem c1
        have hI := ha _ hmem
        rw [decide_eq_true (show (n : Int) < (acts.length : Int) by omega), cond_true, Nat.ble_eq_true_of_le (by omega), cond_true]
        unfold m_law08_ChunkPlays_1
        rw [inR_nat c1, cond_true, ho, inR_nat c1, cond_true, Int.toNat_natCast, act_len n c1]
        rw [done_eq v (a := ⟨acts[n].getD 0 0, acts[n].getD 1 0, acts[n].getD 2 0⟩) hI]
        simp only [Option.bind_some, cond_true]
        rw [told_eq hR v, Option.bind_some]
        have e0 : (layC d).c.Pages = d.Pages := rfl
        rw [e0, bne_self_eq_false, cond_false, Same_eq (by rw [stepR_len]; omega), Option.bind_some, decide_eq_true rfl, wrap_succ (by omega)]
        refine .inl ⟨_, rfl, ⟨n + 1, c1, rfl, rfl, ?_⟩, ?_⟩
        · simp only [stepR_len]; exact e3
        · simp only; omega
      · rw [decide_eq_false (by omega), cond_false, lives08_eq]
        exact .inr ⟨true, rfl, rfl⟩) (List.replicate (layC d).at_11.toNat 0, List.replicate (layC d).at_11.toNat 0, 0) ⟨0, by omega, rfl, rfl, hlen⟩
  exact h1
end Go.Rx
end

section
/- ChunkCounted, plainly. -/
namespace Go.Rx
open Go.Proofs

theorem countM_le (u : List Int) {pg : Int} (hpg : 1 ≤ pg ∧ pg ≤ 256) (tb : Int) : 0 ≤ countM u pg tb ∧ countM u pg tb ≤ 1000 := by
  have := cntN_le u pg tb (chunksN pg)
  unfold countM; unfold chunksN at *; omega

/-- One step of what is counted. -/
theorem counted_step {L : T_layout_Layout} {nw : Nat} {cur : List Int} (v : VOK L nw cur) (p n : Int) {acts : List (List Int)} (ha : ∀ a ∈ acts, I64 (a.getD 1 0)) {j : Nat} (hj : j < acts.length) (hs : acts.length ≤ 60) :
    ∃ cur', VOK L nw cur' ∧ sb_law08_ChunkCounted_1_L1 nw L p n acts j cur true = some (.inl (((j + 1 : Nat) : Int), cur', true)) := by
  have hI := ha _ (List.getElem_mem hj)
  have ho : offs (j : Int) 0 = (j : Int) := rfl
  have hpg := v.lay.pages
  have ht := v.tab
  unfold sb_law08_ChunkCounted_1_L1
  simp only [decide_eq_true (show (j : Int) < (acts.length : Int) by omega), cond_true, ho, inR_nat hj, Int.toNat_natCast, act_len j hj, cCount_eq v, Pages_eq v.lay, Option.bind_some, Map_eq v, Unmap_eq v, Ensure_eq v hI, cCount_eq (v.turn _ _), cCount_eq (v.ens _ _)]
  rw [wrap_succ (by omega)]
  have hc0 := countM_le cur hpg L.at_0
  have hpn := pagesN_le L.c.Pages (acts[j].getD 1 0)
  by_cases h0 : acts[j].getD 0 0 = 0
  · have e : (acts[j].getD 0 0 == 0) = true := by rw [h0]; rfl
    rw [e, cond_true]
    have hct := count_turn (pg := L.c.Pages) (tb := L.at_0) (cur := cur) (k := acts[j].getD 1 0) (st := 1) ht.1 ht.2
    have hc1 := countM_le (turnU cur L.c.Pages L.at_0 (acts[j].getD 1 0) 1) hpg L.at_0
    refine ⟨turnU cur L.c.Pages L.at_0 (acts[j].getD 1 0) 1, v.turn _ _, ?_⟩
    unfold byM at hct
    cases hb : turnB cur L.c.Pages L.at_0 (acts[j].getD 1 0) 1 with
    | true =>
      rw [hb] at hct
      simp only [cond_true, beq_self_eq_true] at hct ⊢
      rw [wrap_id (by omega) (by omega), hct, beq_self_eq_true]
    | false =>
      rw [hb] at hct
      simp only [cond_false] at hct ⊢
      rw [wrap_id (by omega) (by omega), hct, beq_self_eq_true]
  · have e : (acts[j].getD 0 0 == 0) = false := by simp only [beq_eq_false_iff_ne]; exact h0
    rw [e, cond_false]
    by_cases h1 : acts[j].getD 0 0 = 1
    · have e : (acts[j].getD 0 0 == 1) = true := by rw [h1]; rfl
      rw [e, cond_true]
      have hct := count_turn (pg := L.c.Pages) (tb := L.at_0) (cur := cur) (k := acts[j].getD 1 0) (st := 0) ht.1 ht.2
      have hc1 := countM_le (turnU cur L.c.Pages L.at_0 (acts[j].getD 1 0) 0) hpg L.at_0
      refine ⟨turnU cur L.c.Pages L.at_0 (acts[j].getD 1 0) 0, v.turn _ _, ?_⟩
      unfold byM at hct
      have e01 : ((0 : Int) == 1) = false := by decide
      cases hb : turnB cur L.c.Pages L.at_0 (acts[j].getD 1 0) 0 with
      | true =>
        rw [hb] at hct
        simp only [cond_true, e01, cond_false] at hct ⊢
        rw [wrap_id (x := 0 - _) (by omega) (by omega), wrap_id (by omega) (by omega), hct]
        have e2 : countM cur L.c.Pages L.at_0 + -pagesN L.c.Pages (acts[j].getD 1 0) = countM cur L.c.Pages L.at_0 + (0 - pagesN L.c.Pages (acts[j].getD 1 0)) := by omega
        rw [e2, beq_self_eq_true]
      | false =>
        rw [hb] at hct
        simp only [cond_false] at hct ⊢
        rw [wrap_id (by omega) (by omega), hct, beq_self_eq_true]
    · have e : (acts[j].getD 0 0 == 1) = false := by simp only [beq_eq_false_iff_ne]; exact h1
      rw [e, cond_false]
      refine ⟨(ensM cur L.c.Pages L.at_0 (acts[j].getD 1 0) (acts[j].getD 2 0)).2, v.ens _ _, ?_⟩
      have hce := count_ens (pg := L.c.Pages) (tb := L.at_0) (cur := cur) ht.1 ht.2 (acts[j].getD 1 0 / 4) (ensK L.c.Pages (acts[j].getD 1 0) (acts[j].getD 2 0))
      have hc1 := countM_le (ensM cur L.c.Pages L.at_0 (acts[j].getD 1 0) (acts[j].getD 2 0)).2 hpg L.at_0
      unfold ensM at hc1 ⊢
      rw [hce] at hc1 ⊢
      rw [wrap_id (by omega) (by omega), beq_self_eq_true]

theorem counted_end {L : T_layout_Layout} {nw : Nat} {cur : List Int} (v : VOK L nw cur) {p n : Int} (hp : I64 p) {acts : List (List Int)} :
    ∃ cur', sb_law08_ChunkCounted_1_L1 nw L p n acts (acts.length : Int) cur true = some (.inr (cur', true)) := by
  have hpg := v.lay.pages
  have ht := v.tab
  have hcov := covers_ens (pg := L.c.Pages) (tb := L.at_0) (cur := cur) (p := p) (n := n) ht.1 ht.2
  have v2 := v.ens p n
  unfold sb_law08_ChunkCounted_1_L1
  rw [decide_eq_false (by omega), cond_false]
  simp only [Ensure_eq v hp, Option.bind_some, Config_eq, cOf, Covers_eq v2 hp, Ensure_eq v2 hp, hcov.1, hcov.2, cond_true]
  unfold spanB
  by_cases a : 0 ≤ p
  · rw [decide_eq_true (show p ≥ 0 from a)]
    by_cases b : 1 ≤ n
    · rw [decide_eq_true (show n ≥ 1 from b)]
      by_cases d : p < L.c.Pages
      · rw [decide_eq_true d, wrap_id (by omega) (by omega)]
        simp only [Bool.true_and, beq_self_eq_true, cond_true]
        exact ⟨_, rfl⟩
      · rw [decide_eq_false d]
        simp only [cond_false, Bool.false_and, Bool.and_false, beq_self_eq_true, cond_true]
        exact ⟨_, rfl⟩
    · rw [decide_eq_false (show ¬ n ≥ 1 from b)]
      simp only [cond_false, cond_true, Bool.false_and, beq_self_eq_true]
      exact ⟨_, rfl⟩
  · rw [decide_eq_false (show ¬ p ≥ 0 from a)]
    simp only [cond_false, cond_true, Bool.false_and, Bool.and_false, beq_self_eq_true]
    exact ⟨_, rfl⟩

theorem ChunkCounted_main (c : T_api_Config) (p n : Int) (acts : List (List Int)) (ha : ∀ a ∈ acts, I64 (a.getD 1 0)) (hp : I64 p) : m_law08_ChunkCounted c p n acts = some true := by
  unfold m_law08_ChunkCounted
  by_cases hl : (acts.length : Int) > 60
  · rw [decide_eq_true hl, cond_true, lives08_eq]; rfl
  rw [decide_eq_false hl, cond_false]
  obtain ⟨d, hR, hB⟩ := Begin_eq c
  have hL := layC_ok hR
  have hb := hL.big; have h11 := hL.a11; have hpg := hL.pages
  rw [hB, Option.bind_some]
  have hlen : (List.replicate (layC d).at_11.toNat (0 : Int)).length = (layC d).at_11.toNat := by simp
  have v0 := rep_VOK hL
  simp only
  rw [Nat.ble_eq_true_of_le (by rw [hlen]; omega), cond_true]
  generalize List.replicate (layC d).at_11.toNat (0 : Int) = w at *
  obtain ⟨r, h1, w', rfl⟩ := loopO_ind (step := fun s : Int × List Int × Bool => sb_law08_ChunkCounted_1_L1 w.length (layC d) p n acts s.1 s.2.1 s.2.2)
    (I := fun s => ∃ j : Nat, j ≤ acts.length ∧ s.1 = j ∧ VOK (layC d) w.length s.2.1 ∧ s.2.2 = true) (μ := fun s => acts.length - s.1.toNat) (fun r => ∃ w', r = (w', true)) (by
      rintro ⟨k, u, b⟩ ⟨j, hj, e1, v, e2⟩
      simp only at e1 e2 v
      subst e1; subst e2
      simp only
      by_cases c1 : j < acts.length
      · obtain ⟨u', v', h⟩ := counted_step v p n ha c1 (by omega)
        exact .inl ⟨_, h, ⟨j + 1, c1, rfl, v', rfl⟩, by simp only; omega⟩
      · have ej : j = acts.length := by omega
        subst ej
        obtain ⟨u', h⟩ := counted_end v hp (acts := acts) (n := n)
        exact .inr ⟨_, h, u', rfl⟩) (0, w, true) ⟨0, by omega, rfl, v0, rfl⟩
  have h2 : m_law08_ChunkCounted_1 w.length w true (layC d) p n acts = some (w', true) := h1
  rw [h2, Option.bind_some]
  simp only [cond_true, lives08_eq, Option.bind_some]
end Go.Rx
end

section
/- From a function's contract to the row of its law: how arguments read, and that they read so behind the call. -/
namespace Go.Rx
open Go.ChangeShapes Go.WideShapes Go.ChangeAt Go.RowKit

/-- The kinds of a law's arguments: a slice that is read, a value. -/
inductive AK where
  | row (tg : Nat)
  | el (tg : Nat)

/-- An element's numbers fit their kinds. -/
def elWf (tg : Nat) (e : El tg) : Prop := ∀ k n, Value.int k n ∈ elEnc tg e → (Lit.int k n).wf = true

/-- A value of an element's kind. -/
def elV : (tg : Nat) → El tg → V
  | 0, (n : Int) => vi n
  | 1, (b : Bool) => vb b
  | t, e => .agg ((elEnc t e).map .ext)

def ArgsOf : List AK → Nat → List V → Heap → Prop
  | [], _, ags, H => ags = [] ∧ H = []
  | .row tg :: ks, n, ags, H => ∃ (l : List (El tg)) (ags' : List V) (H' : Heap), ags = .row n :: ags' ∧ H = .row tg l true :: H' ∧ (∀ e ∈ l, elWf tg e) ∧ l.length ≤ maxLen ∧ ArgsOf ks (n + 1) ags' H'
  | .el tg :: ks, n, ags, H => ∃ (e : El tg) (ags' : List V), ags = elV tg e :: ags' ∧ elWf tg e ∧ ArgsOf ks n ags' H

/-- A law: whatever comes in, true. -/
def lawS (ks : List AK) : Spec where
  tr := fun args H K => ArgsOf ks 0 args H ∧ ∀ H', K (vb true) H'

section
variable {P : Program} {elT : ET}

/-- What a program must tell of an element's type. -/
structure ElOK (P : Program) (elT : ET) (tg : Nat) : Prop where
  cells : P.cellsOf (elT tg) = elM tg
  reads : ∀ {H : Type} (enc : TypeId × Value → H) (W : World) (base : Nat) (sp : Nat → Bool) (held : Bool) (fuel : Nat) (cs : List Value) (x : DataW H × List MemPlace),
    DataW.trod enc P W base sp held fuel (elT tg) cs = some x → ∃ e : El tg, cs = elEnc tg e ∧ elWf tg e
  value : ∀ (W : World) (r : Reach) (b : Nat) (v : Value) (e : El tg), Value.okWide P W r b (elT tg) v → v.cells.toList = elEnc tg e → ∀ ρ, (elV tg e).den ρ = some v

variable {H : Type} {enc : TypeId × Value → H} {W : World} {sp : Nat → Bool} {held : Bool}

theorem open_row {tg : Nat} (ok : ElOK P elT tg) {t : TypeId} (ht : P.underlying t = some (.slice (elT tg))) {r : Reach} {b0 : Nat} {v : Value} {d : DataW H} {ps : List MemPlace}
    (hval : Value.okWide P W r b0 t v) (hd : DataW.Trod enc P W 0 sp held t v d ps) :
    ∃ (l : List (El tg)) (F : List Nat), (∀ n ∈ F, n < W.heap.size) ∧ (∀ e ∈ l, elWf tg e) ∧ l.length ≤ maxLen ∧ (∃ a cap, v = .slice a l.length cap) ∧ ∀ ρ, (Blk.row tg l true).holds elT ρ W v F := by
  obtain ⟨a, len, cap, rfl⟩ := okWide_slice ht hval
  obtain ⟨fuel, hf⟩ := hd
  rcases Deep.open_slice ht hf with ⟨h, _⟩ | ⟨ad, len', cap', m, n, D, Pl, h, _, hl, hm, hmm, _, hx⟩
  · simp [Value.cells] at h
    obtain ⟨rfl, rfl, rfl⟩ := h
    exact ⟨[], [], by simp, by simp, Nat.zero_le _, ⟨none, 0, rfl⟩, fun ρ => ⟨none, 0, rfl, Nat.le_refl _, Nat.zero_le _, fun _ => rfl, fun j x hj => by simp [flat] at hj⟩⟩
  · simp [Value.cells] at h
    obtain ⟨rfl, rfl, rfl⟩ := h
    have hlm : len ≤ m := by rw [hmm]; split <;> omega
    have key : ∀ i, i < len → ∃ e : El tg, W.cells? 0 (ad.add (i * elM tg)) (elM tg) = some (elEnc tg e) ∧ elWf tg e := by
      intro i hi
      obtain ⟨cs', h1, h2⟩ := hx i (by omega)
      rw [ok.cells] at h1
      obtain ⟨e, he, hw⟩ := ok.reads enc W 0 sp held n cs' _ h2
      exact ⟨e, by rw [h1, he], hw⟩
    haveI : Inhabited (El tg) := ⟨elD tg⟩
    obtain ⟨E, hE⟩ := Deep.choose_lt key
    refine ⟨(List.range len).map E, if ad.block < W.heap.size then [ad.block] else [], ?_, ?_, by simp; omega, ⟨some ad, cap, by simp⟩, fun ρ => ⟨some ad, cap, by simp, by simpa using hl, hm, (fun h => by cases h), fun j x hj => ?_⟩⟩
    · intro n hn
      split at hn
      · rename_i hb; simp at hn; omega
      · simp at hn
    · intro e he
      obtain ⟨i, hi, rfl⟩ := List.mem_map.1 he
      exact (hE i (by simpa using hi)).2
    · have hjl : j < len * elM tg := by
        have := (List.getElem?_eq_some_iff.1 hj).1
        rw [flat_len] at this; simpa using this
      have hM : 0 < elM tg := by
        rcases Nat.eq_zero_or_pos (elM tg) with h | h
        · rw [h] at hjl; simp at hjl
        · exact h
      have hk : j / elM tg < len := (Nat.div_lt_iff_lt_mul hM).2 hjl
      have hr : j % elM tg < elM tg := Nat.mod_lt _ hM
      have hje : j = j / elM tg * elM tg + j % elM tg := by rw [Nat.mul_comm]; exact (Nat.div_add_mod _ _).symm
      rw [hje, flat_get tg _ _ (by simpa using hk) _ hr] at hj
      have hg : ((List.range len).map E).getD (j / elM tg) (elD tg) = E (j / elM tg) := by simp [List.getD, hk]
      rw [hg] at hj
      obtain ⟨_, _, hc⟩ := World.cells?_some (hE _ hk).1
      have := hc _ hr
      rw [hj, Deep.add_add, ← hje] at this
      refine ⟨ad, rfl, ?_, this⟩
      have hb : (ad.add j).block = ad.block := block_add ad j
      have hlt : ad.block < W.heap.size := by
        rcases Nat.lt_or_ge ad.block W.heap.size with h | h
        · exact h
        · rw [← hb] at h
          simp [World.cell?, Array.getElem?_eq_none h] at this
      simp [hlt]

/-- What each argument's type must be. -/
def AKOK (P : Program) (elT : ET) : AK → TypeId → Prop
  | .row tg, t => P.underlying t = some (.slice (elT tg)) ∧ ElOK P elT tg
  | .el tg, t => t = elT tg ∧ ElOK P elT tg

def AKsOK (P : Program) (elT : ET) : List AK → List TypeId → Prop
  | [], [] => True
  | k :: ks, t :: ts => AKOK P elT k t ∧ AKsOK P elT ks ts
  | _, _ => False

theorem open_args : ∀ (ks : List AK) (ts : List TypeId) (vs : List Value) (ds : List (DataW H)) (ps : List MemPlace) (r : Reach) (b0 : Nat), AKsOK P elT ks ts →
    (∀ (j : Nat) t v, ts[j]? = some t → vs[j]? = some v → Value.okWide P W r b0 t v) → DataW.TrodAll enc P W 0 sp held ts vs ds ps → ∀ (ρ : List Value) (F : Nat → List Nat) (H0 : Heap), Sat elT ρ F H0 W → (∀ b ∈ H0, b.writable = false) →
    ∃ (ags : List V) (H1 : Heap) (ρ' : List Value) (F' : Nat → List Nat), ArgsOf ks ρ.length ags H1 ∧ denL ρ' ags = some vs ∧ Sat elT ρ' F' (H0 ++ H1) W ∧ (∀ b ∈ H0 ++ H1, b.writable = false) ∧ Le ρ ρ'
  | [], ts, vs, ds, ps, r, b0, hk, _, hd, ρ, F, H0, hs, hw => by
    cases ts with
    | cons t ts => exact hk.elim
    | nil =>
      obtain ⟨rfl, rfl, rfl⟩ := trodAll_nil hd
      exact ⟨[], [], ρ, F, ⟨rfl, rfl⟩, rfl, by simpa using hs, by simpa using hw, Le.refl ρ⟩
  | k :: ks, ts, vs, ds, ps, r, b0, hk, hval, hd, ρ, F, H0, hs, hw => by
    cases ts with
    | nil => exact hk.elim
    | cons t ts =>
      obtain ⟨hk1, hk2⟩ := hk
      obtain ⟨v, vs', d, ds', p, q, rfl, rfl, rfl, h1, h2⟩ := trodAll_cons hd
      have hv := hval 0 t v rfl rfl
      have hval' : ∀ (j : Nat) t v, ts[j]? = some t → vs'[j]? = some v → Value.okWide P W r b0 t v := fun j t v a b => hval (j + 1) t v (by simpa using a) (by simpa using b)
      cases k with
      | row tg =>
        obtain ⟨ht, ok⟩ := hk1
        obtain ⟨l, G, hG, hwf, hml, ⟨a, cap, hv2⟩, hh⟩ := open_row ok ht hv h1
        have hlen := hs.len
        have hs1 : Sat elT (ρ ++ [v]) (fset F H0.length G) (H0 ++ [.row tg l true]) W := by
          refine ⟨by simp [hlen], ?_, ?_, ?_⟩
          · intro i b x hb hx
            rcases push_get hb with ⟨hi, hb⟩ | ⟨rfl, rfl⟩
            · have hx' : ρ[i]? = some x := by rw [List.getElem?_append_left (by omega)] at hx; exact hx
              have e : fset F H0.length G i = F i := by unfold fset; rw [if_neg (by omega)]
              rw [e]
              exact Blk.holds_le (by intro i x h; exact List.getElem?_append_left (List.getElem?_eq_some_iff.1 h).1 ▸ h) (fun _ _ => rfl) b (hs.each i b x hb hx')
            · have hx' : x = v := by
                rw [List.getElem?_append_right (by omega)] at hx
                rw [show H0.length - ρ.length = 0 by omega] at hx
                simpa using hx.symm
              subst hx'
              have e : fset F H0.length G H0.length = G := by simp [fset]
              rw [e]
              exact hh _
          · intro i b hb n hn
            rcases push_get hb with ⟨hi, hb⟩ | ⟨rfl, rfl⟩
            · have e : fset F H0.length G i = F i := by unfold fset; rw [if_neg (by omega)]
              rw [e] at hn
              exact hs.lt i b hb n hn
            · have e : fset F H0.length G H0.length = G := by simp [fset]
              rw [e] at hn
              exact hG n hn
          · intro i j bi bj hbi hbj hij hwi
            exfalso
            have hm := List.mem_of_getElem? hbi
            rcases List.mem_append.1 hm with hm | hm
            · rw [hw bi hm] at hwi; cases hwi
            · simp at hm; subst hm; cases hwi
        have hw1 : ∀ b ∈ H0 ++ [Blk.row tg l true], b.writable = false := by
          intro b hb
          rcases List.mem_append.1 hb with hb | hb
          · exact hw b hb
          · simp at hb; subst hb; rfl
        obtain ⟨ags, H1, ρ', F', g1, g2, g3, g4, g5⟩ := open_args ks ts vs' ds' q r b0 hk2 hval' h2 _ _ _ hs1 hw1
        have hρ : ρ'[ρ.length]? = some v := g5 _ _ (by simp)
        refine ⟨.row ρ.length :: ags, .row tg l true :: H1, ρ', F', ⟨l, ags, H1, rfl, rfl, hwf, hml, by simpa using g1⟩, ?_, by simpa using g3, by simpa using g4, ?_⟩
        · have e : (V.row ρ.length).den ρ' = some v := by subst hv2; simp only [V.den, hρ]
          simp only [denL, e, g2]
        · intro i x hx
          exact g5 i x (by rw [List.getElem?_append_left (List.getElem?_eq_some_iff.1 hx).1]; exact hx)
      | el tg =>
        obtain ⟨rfl, ok⟩ := hk1
        obtain ⟨fuel, hf⟩ := h1
        obtain ⟨e, he, hwf⟩ := ok.reads enc W 0 sp held fuel _ _ hf
        obtain ⟨ags, H1, ρ', F', g1, g2, g3, g4, g5⟩ := open_args ks ts vs' ds' q r b0 hk2 hval' h2 ρ F H0 hs hw
        refine ⟨elV tg e :: ags, H1, ρ', F', ⟨e, ags, rfl, hwf, g1⟩, ?_, g3, g4, g5⟩
        simp only [denL, ok.value W r b0 v e hv he ρ', g2]

theorem trodAll_stays (hl : laidOutB P = true) {W' : World} {sp' : Nat → Bool} : ∀ {ts : List TypeId} {vs : List Value} {ds : List (DataW H)} {ps : List MemPlace}, ts.all (fun t => P.readableRec t && decide (t < P.types.size)) = true →
    DataW.TrodAll enc P W 0 (fun _ => true) true ts vs ds ps → (∀ x ∈ ps, W.sameAt W' x) → (∀ x ∈ ps, sp' x.block = true) → DataW.TrodAll enc P W' 0 sp' true ts vs ds ps
  | [], vs, ds, ps, _, h, _, _ => by
    obtain ⟨rfl, rfl, rfl⟩ := trodAll_nil h
    rfl
  | t :: ts, vs, ds, ps, hr, h, h1, h2 => by
    obtain ⟨v, vs', d, ds', p, q, rfl, rfl, rfl, g1, g2⟩ := trodAll_cons h
    simp only [List.all_cons, Bool.and_eq_true, decide_eq_true_eq] at hr
    exact ⟨p, q, WideElems.Trod_stays hl hr.1.1 hr.1.2 g1 (fun x hx => h1 x (by simp [hx])) (fun x hx => h2 x (by simp [hx])),
      trodAll_stays hl hr.2 g2 (fun x hx => h1 x (by simp [hx])) (fun x hx => h2 x (by simp [hx])), rfl⟩

/-- A call that reads alone, and its post. -/
theorem post_law {f : Func} {s : ChangeSpec} {apart fresh handsOn : Bool} {tb : TypeId} (hl : laidOutB P = true) (htb : P.underlying tb = some .bool) (hres : f.resultTypes = #[tb]) (hall : f.params.toList.all (fun t => P.readableRec t && decide (t < P.types.size)) = true)
    (hsv : s.vars = []) (hsp : ∀ ds : List (DataW H), ds.length = f.params.toList.length → s.fn H ds = { results := [.lit (.bool true)], args := ds })
    {W W' : World} {args : Array Value} {ds gs : List (DataW H)} {before : List MemPlace} (hW : DataW.Whole enc P f.params.toList s.vars apart W args.toList ds gs before) (hb : Below W.heap.size W W') :
    s.post enc P f apart fresh handsOn false W args (.bool true) W' := by
  have hlt : ∀ p ∈ before, p.block < W.heap.size := fun p hp => hW.lt p hp
  have hW' := hW
  obtain ⟨p, q, hA, hV, rfl, hfz, hnd⟩ := hW
  rw [hsv] at hV
  obtain ⟨rfl, rfl⟩ := trodVars_none hV
  have hlen : ∀ (ts : List TypeId) (vs : List Value) (ds : List (DataW H)) (ps : List MemPlace), DataW.TrodAll enc P W 0 (fun _ => true) true ts vs ds ps → ds.length = ts.length := by
    intro ts
    induction ts with
    | nil => intro vs ds ps h; obtain ⟨rfl, rfl, rfl⟩ := trodAll_nil h; rfl
    | cons t ts ih =>
      intro vs ds ps h
      obtain ⟨v, vs', d, ds', p, q, rfl, rfl, rfl, g1, g2⟩ := trodAll_cons h
      simp [ih _ _ _ g2]
  have hfn : s.fn H (ds ++ []) = { results := [.lit (.bool true)], args := ds } := by rw [List.append_nil]; exact hsp ds (hlen _ _ _ _ hA)
  refine ⟨ds, [], p ++ [], [], p, [], hW', ?_, ?_, ?_, hb.frame _, fun h => by cases h⟩
  · rw [hfn, hres]
    exact trodAll_mk1 (shut_bool htb true)
  · rw [hfn]
    exact trodAll_stays hl hall hA (fun x hx => hb.same (hlt x (by simpa using hx))) (fun x hx => by simpa using hlt x (by simpa using hx))
  · rw [hfn, hsv]
    rfl

/-- The law's contract is the row's. -/
theorem law_calls {f : Func} {s : ChangeSpec} {apart fresh handsOn : Bool} {tb : TypeId} {g : FuncId} {ks : List AK} (hspec : SpecOK P elT g (lawS ks)) (hk : AKsOK P elT ks f.params.toList)
    (hl : laidOutB P = true) (htb : P.underlying tb = some .bool) (hres : f.resultTypes = #[tb]) (hall : f.params.toList.all (fun t => P.readableRec t && decide (t < P.types.size)) = true)
    (hsv : s.vars = []) (hsp : ∀ ds : List (DataW H), ds.length = f.params.toList.length → s.fn H ds = { results := [.lit (.bool true)], args := ds })
    {W : World} {r : Reach} {base : Nat} {args : Array Value} {ds gs : List (DataW H)} {before : List MemPlace} (hval : ∀ (j : Nat) t v, f.params[j]? = some t → args[j]? = some v → Value.okWide P W r base t v)
    (hW : DataW.Whole enc P f.params.toList s.vars apart W args.toList ds gs before) :
    Calls P g args W fun e W' => ∃ v, e = .returned v ∧ s.post enc P f apart fresh handsOn false W args v W' := by
  have hW' := hW
  obtain ⟨p, q, hA, _⟩ := hW
  have h0 : Sat elT [] (fun _ => []) [] W := ⟨rfl, fun i b x hb => by simp at hb, fun i b hb => by simp at hb, fun i j bi bj hb => by simp at hb⟩
  obtain ⟨ags, H1, ρ, F, g1, g2, g3, g4, _⟩ := open_args ks f.params.toList args.toList ds p r base hk (fun j t v a b => hval j t v (by simpa using a) (by simpa using b)) hA [] (fun _ => []) [] h0 (by simp)
  have hc := hspec.2 ags H1 (fun v _ => v = vb true) ⟨g1, fun _ => rfl⟩ ρ F W args.toList g2 (by simpa using g3)
  rw [Array.toArray_toList] at hc
  refine hc.mono fun e W' h => ?_
  obtain ⟨v, x, ρ', F', H', rfl, rfl, hr, _, _, hfr⟩ := h
  have hx : x = .bool true := den_ext hr
  subst hx
  have hnw : ∀ (i : Nat) (b : Blk), H1[i]? = some b → b.writable = true → False := fun i b hb hw => by
    have := g4 b (by simpa using List.mem_of_getElem? hb)
    rw [this] at hw; cases hw
  have hb : Below W.heap.size W W' := ⟨hfr.os, hfr.tape, hfr.output, hfr.size, fun n hn => hfr.block n hn (fun i b hb hw => (hnw i b hb hw).elim)⟩
  exact ⟨_, rfl, post_law hl htb hres hall hsv hsp hW' hb⟩

/-! The cells of a type without pointers: numbers and truth values. -/
end

def flatFs (P : Program) (rec : TypeId → Option (List Bool)) : List Field → Nat → Option (List Bool)
  | [], _ => some []
  | f :: fs, o => match rec f.type with
    | none => none
    | some a => bif Nat.beq f.offset o && Nat.beq (P.cellsOf f.type) a.length then match flatFs P rec fs (o + a.length) with
      | some b => some (a ++ b)
      | none => none
      else none

/-- 'true': an int's cell; 'false': a bool's. -/
def flatK (P : Program) : Nat → TypeId → Option (List Bool)
  | 0, _ => none
  | n + 1, t => match P.underlying t with
    | some .bool => some [false]
    | some (.int .i64) => some [true]
    | some (.struct fs) => match flatFs P (flatK P n) fs.toList 0 with
      | some ks => bif Nat.beq (P.cellsOf t) ks.length then some ks else none
      | none => none
    | _ => none

def goodCell (b : Bool) (v : Option Value) : Prop := match b with
  | true => ∃ n, v = some (.int .i64 n) ∧ (Lit.int .i64 n).wf = true
  | false => ∃ c, v = some (.bool c)

section
variable {P : Program} {elT : ET} {H : Type} {enc : TypeId × Value → H} {W : World} {sp : Nat → Bool} {held : Bool}

theorem flatFs_good {rec : TypeId → Option (List Bool)} {base : Nat} {cs : List Value} (hrec : ∀ t ks fuel cs (x : DataW H × List MemPlace), rec t = some ks → DataW.trod enc P W base sp held fuel t cs = some x → cs.length = ks.length ∧ ∀ (i : Nat) (b : Bool), ks[i]? = some b → goodCell b cs[i]?) {n : Nat} :
    ∀ (fl : List Field) (o : Nat) (ks : List Bool), (∀ f ∈ fl, ∃ y, DataW.trod enc P W base sp held n f.type ((cs.drop f.offset).take (P.cellsOf f.type)) = some y) → flatFs P rec fl o = some ks → ∀ (i : Nat) (b : Bool), ks[i]? = some b → goodCell b cs[o + i]?
  | [], o, ks, _, h, i, b, hb => by simp only [flatFs, Option.some.injEq] at h; subst h; simp at hb
  | f :: fl, o, ks, hall, h, i, b, hb => by
    simp only [flatFs] at h
    split at h
    · cases h
    · rename_i a ha
      cases hc : (Nat.beq f.offset o && Nat.beq (P.cellsOf f.type) a.length) with
      | false => rw [hc] at h; cases h
      | true =>
        rw [hc] at h
        simp only [cond_true] at h
        simp only [Bool.and_eq_true] at hc
        have e1 := Nat.eq_of_beq_eq_true hc.1
        have e2 := Nat.eq_of_beq_eq_true hc.2
        split at h
        · rename_i b' hb'
          injection h with h
          subst h
          rcases Nat.lt_or_ge i a.length with hi | hi
          · rw [List.getElem?_append_left hi] at hb
            obtain ⟨y, hy⟩ := hall f (by simp)
            have hg := (hrec f.type a n _ y ha hy).2 i b hb
            rw [e1, e2, List.getElem?_take, if_pos hi, List.getElem?_drop] at hg
            exact hg
          · rw [List.getElem?_append_right hi] at hb
            have := flatFs_good hrec fl (o + a.length) b' (fun f hf => hall f (by simp [hf])) hb' (i - a.length) b hb
            rw [show o + a.length + (i - a.length) = o + i by omega] at this
            exact this
        · cases h

theorem flatK_good {base : Nat} : ∀ (n : Nat) (t : TypeId) (ks : List Bool) (fuel : Nat) (cs : List Value) (x : DataW H × List MemPlace), flatK P n t = some ks → DataW.trod enc P W base sp held fuel t cs = some x →
    cs.length = ks.length ∧ ∀ (i : Nat) (b : Bool), ks[i]? = some b → goodCell b cs[i]?
  | 0, t, ks, fuel, cs, x, h, _ => by cases h
  | n + 1, t, ks, fuel, cs, x, h, hx => by
    simp only [flatK] at h
    split at h
    · rename_i ht
      injection h with h; subst h
      obtain ⟨b, rfl, _⟩ := DataW.trod_bool ht hx
      refine ⟨rfl, fun i b' hb => ?_⟩
      cases i with
      | zero => simp at hb; subst hb; exact ⟨b, rfl⟩
      | succ i => simp at hb
    · rename_i ht
      injection h with h; subst h
      obtain ⟨m, rfl, _, hw⟩ := DataW.trod_int ht hx
      refine ⟨rfl, fun i b' hb => ?_⟩
      cases i with
      | zero => simp at hb; subst hb; exact ⟨m, rfl, hw⟩
      | succ i => simp at hb
    · rename_i fs ht
      split at h
      · rename_i ks' hks
        cases hc : Nat.beq (P.cellsOf t) ks'.length with
        | false => rw [hc] at h; cases h
        | true =>
          rw [hc] at h
          injection h with h; subst h
          obtain ⟨xs, m, _, _, hlen, hxs, hall⟩ := DataW.trod_struct ht hx
          refine ⟨by rw [hlen, Nat.eq_of_beq_eq_true hc], fun i b hb => ?_⟩
          have := flatFs_good (enc := enc) (W := W) (sp := sp) (held := held) (base := base) (cs := cs) (n := m) (fun t ks fuel cs x a b => flatK_good n t ks fuel cs x a b) fs.toList 0 ks' (fun f hf => by
            obtain ⟨k, hk⟩ := List.getElem?_of_mem hf
            rw [Array.getElem?_toList] at hk
            have h1 := hall k f hk
            have hi : k < fs.size := (Array.getElem?_eq_some_iff.1 hk).1
            rw [List.getElem?_eq_getElem (by omega)] at h1
            exact ⟨_, h1⟩) hks i b hb
          rwa [Nat.zero_add] at this
      · cases h
    · cases h

theorem elOK_int (ht : P.underlying (elT 0) = some (.int .i64)) (hc : P.cellsOf (elT 0) = 1) : ElOK P elT 0 := by
  refine ⟨hc, fun enc W base sp held fuel cs x h => ?_, fun W r b v e hv hcs ρ => ?_⟩
  · obtain ⟨n, rfl, _, hw⟩ := DataW.trod_int ht h
    refine ⟨n, rfl, fun k m hm => ?_⟩
    simp [elEnc, i64] at hm
    obtain ⟨rfl, rfl⟩ := hm
    exact hw
  · simp only [Value.okWide, ht, Cell.okWide] at hv
    have hcs' : v.cells.toList = [.int .i64 e] := hcs
    show some (Value.int .i64 e) = some v
    cases v <;> simp_all [Cell.ok, Value.cells]

theorem elOK_bool (ht : P.underlying (elT 1) = some .bool) (hc : P.cellsOf (elT 1) = 1) : ElOK P elT 1 := by
  refine ⟨hc, fun enc W base sp held fuel cs x h => ?_, fun W r b v e hv hcs ρ => ?_⟩
  · obtain ⟨b, rfl, _⟩ := DataW.trod_bool ht h
    refine ⟨b, rfl, fun k m hm => ?_⟩
    simp [elEnc] at hm
  · obtain ⟨b', rfl⟩ := okWide_bool ht hv
    have hcs' : (Value.bool b').cells.toList = [.bool e] := hcs
    show some (Value.bool e) = some (Value.bool b')
    simp [Value.cells] at hcs'
    rw [hcs']

theorem struct_value {tg : Nat} {e : El tg} {fs : Array Field} {W : World} {r : Reach} {b : Nat} {v : Value} (ht : P.underlying (elT tg) = some (.struct fs)) (hv : Value.okWide P W r b (elT tg) v) (hcs : v.cells.toList = elEnc tg e) (ρ : List Value) :
    (V.agg ((elEnc tg e).map .ext)).den ρ = some v := by
  obtain ⟨cs, rfl, _⟩ := okWide_struct ht hv
  simp only [Value.cells] at hcs
  simp only [V.den, denL_ext]
  rw [← hcs]

end
end Go.Rx
end

section
/- Structs of ints, as a row reads them. -/
namespace Go.Rx
open Go.ChangeShapes Go.WideShapes

theorem elOK_ints {P : Program} {elT : ET} {fs : Array Field} {m : Nat} (ht : P.underlying (elT (m + 4)) = some (.struct fs)) (hc : P.cellsOf (elT (m + 4)) = m % 32 + 1)
    (hf : flatK P 6 (elT (m + 4)) = some (List.replicate (m % 32 + 1) true)) : ElOK P elT (m + 4) := by
  refine ⟨hc, fun enc W base sp held fuel cs x h => ?_, fun W r b v e hv hcs ρ => struct_value ht hv hcs ρ⟩
  obtain ⟨hlen, hg⟩ := flatK_good 6 (elT (m + 4)) _ fuel cs x hf h
  rw [List.length_replicate] at hlen
  have hI : ∀ i, i < m % 32 + 1 → ∃ n, cs[i]? = some (.int .i64 n) ∧ (Lit.int .i64 n).wf = true := fun i hi => hg i true (by rw [List.getElem?_replicate, if_pos hi])
  obtain ⟨N, hN⟩ := Deep.choose_lt hI
  have hget : ∀ i, i < m % 32 + 1 → ((List.range (m % 32 + 1)).map N).getD i 0 = N i := fun i hi => by simp [List.getD, hi]
  have hcs : cs = elEnc (m + 4) ((List.range (m % 32 + 1)).map N : List Int) := by
    show cs = (List.range (m % 32 + 1)).map fun i => i64 (((List.range (m % 32 + 1)).map N).getD i 0)
    apply List.ext_getElem?
    intro i
    rcases Nat.lt_or_ge i (m % 32 + 1) with hi | hi
    · rw [(hN i hi).1, List.getElem?_map, List.getElem?_range hi, Option.map_some, hget i hi]
    · rw [List.getElem?_eq_none (by omega), List.getElem?_eq_none (by simpa using hi)]
  refine ⟨_, hcs, fun k n hm => ?_⟩
  have hm' : Value.int k n ∈ cs := by rw [hcs]; exact hm
  obtain ⟨i, hi⟩ := List.getElem?_of_mem hm'
  have hil : i < m % 32 + 1 := by rw [← hlen]; exact (List.getElem?_eq_some_iff.1 hi).1
  obtain ⟨h1, h2⟩ := hN i hil
  rw [h1] at hi
  injection hi with hi
  injection hi with e1 e2
  subst e1; subst e2
  exact h2
end Go.Rx
end

section
/- The law 'ChunkCounted', out of its plain form. -/
namespace Go.Rx
open Go.Proofs
theorem el_i64 {n : Nat} {e : List Int} (h : elWf (n + 4) e) {i : Nat} (hi : i < n % 32 + 1) : I64 (e.getD i 0) := by
  have h1 := h .i64 (e.getD i 0) (List.mem_map.2 ⟨i, List.mem_range.2 hi, rfl⟩)
  exact bounds_i64 h1
theorem int_i64 {x : Int} (h : elWf 0 x) : I64 x := by
  have h1 := h .i64 x (by show Value.int .i64 x ∈ [i64 x]; simp)
  exact bounds_i64 h1

theorem law_law08_ChunkCounted : SpecOK Try.prog elTT 4 (lawS [.el 14, .row 6, .el 0, .el 0]) := spec_mono (fun args H K h => by
  obtain ⟨ha, hk⟩ := h
  obtain ⟨e0, _, rfl, hw0, l1, _, _, rfl, rfl, hw1, hn1, e2, _, rfl, hw2, e3, _, rfl, hw3, rfl, rfl⟩ := ha
  show So (m_law08_ChunkCounted (⟨List.getD (e0 : List Int) 0 0, List.getD (e0 : List Int) 1 0, List.getD (e0 : List Int) 2 0, List.getD (e0 : List Int) 3 0, List.getD (e0 : List Int) 4 0, List.getD (e0 : List Int) 5 0, List.getD (e0 : List Int) 6 0, List.getD (e0 : List Int) 7 0, List.getD (e0 : List Int) 8 0, List.getD (e0 : List Int) 9 0, List.getD (e0 : List Int) 10 0⟩ : T_api_Config) e2 e3 l1) _
  exact So_eq (ChunkCounted_main _ _ _ _ (fun a ha => el_i64 (n := 2) (hw1 a ha) (by decide)) (int_i64 hw2)) (hk _)) ok_law08_ChunkCounted
end Go.Rx
end
