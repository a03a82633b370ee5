/- What the row's text of this claim stands on, part 4: the symbolic executor, contracts of the program's functions, plain facts. No condition. -/
import Derived.ScopeJumps
import Derived.Test.YtgogaoelkdjajaaK10aC
section
/- The document's layouts, plainly: they are the program's. -/
namespace Go.Rx
open Go.Proofs

theorem wrap_u64' (x : Int) : IntKind.wrap IntKind.u64 x = x % 18446744073709551616 := rfl
theorem within_eq {n low high : Int} (h : 0 ≤ low ∧ low ≤ high ∧ high ≤ 1099511627776) : ∃ x, m_law02_within n low high = some x ∧ low ≤ x ∧ x ≤ high := by
  unfold m_law02_within
  have hu : ∀ x : Int, 0 ≤ x → x < 18446744073709551616 → IntKind.wrap IntKind.u64 x = x := fun x h1 h2 => by
    rw [wrap_u64']; omega
  have hn : ∀ x : Int, 0 ≤ IntKind.wrap IntKind.u64 x := fun x => by
    rw [wrap_u64']; exact Int.emod_nonneg _ (by decide)
  rw [wrap_id (x := high - low) (by omega) (by omega), wrap_id (x := high - low + 1) (by omega) (by omega), hu (high - low + 1) (by omega) (by omega)]
  have e : (!(high - low + 1 == 0)) = true := by simp; omega
  rw [e, cond_true]
  have h0 := hn n
  generalize IntKind.wrap IntKind.u64 n = m at *
  rw [Int.tmod_eq_emod_of_nonneg h0]
  have h1 := Int.emod_nonneg m (b := high - low + 1) (by omega)
  have h2 := Int.emod_lt_of_pos m (b := high - low + 1) (by omega)
  generalize m % (high - low + 1) = k at *
  refine ⟨_, rfl, ?_⟩
  rw [wrap_id (x := k) (by omega) (by omega), wrap_id (by omega) (by omega)]
  omega

theorem Some_eq (c : T_api_Config) : ∃ d, m_law02_Some c = some d ∧ RightC d := by
  unfold m_law02_Some
  obtain ⟨a0, e0, h0⟩ := within_eq (n := c.Workers) (low := 1) (high := 64) (by omega)
  obtain ⟨a1, e1, h1⟩ := within_eq (n := c.CPUs) (low := 1) (high := 8) (by omega)
  obtain ⟨a2, e2, h2⟩ := within_eq (n := c.Pages) (low := 1) (high := 256) (by omega)
  obtain ⟨a3, e3, h3⟩ := within_eq (n := c.Stripes) (low := 1) (high := 64) (by omega)
  obtain ⟨a4, e4, h4⟩ := within_eq (n := c.Tries) (low := 0) (high := 16) (by omega)
  obtain ⟨a5, e5, h5⟩ := within_eq (n := c.Wait) (low := 0) (high := 64) (by omega)
  obtain ⟨a6, e6, h6⟩ := within_eq (n := c.Clock) (low := 1) (high := 1099511627776) (by omega)
  obtain ⟨a7, e7, h7⟩ := within_eq (n := c.Private) (low := 1) (high := 8) (by omega)
  obtain ⟨a8, e8, h8⟩ := within_eq (n := c.Cache) (low := 0) (high := 8) (by omega)
  obtain ⟨a9, e9, h9⟩ := within_eq (n := c.Bin) (low := 0) (high := 16) (by omega)
  obtain ⟨a10, e10, h10⟩ := within_eq (n := c.Batch) (low := 1) (high := 8) (by omega)
  rw [e0, e1, e2, e3, e4, e5, e6, e7, e8, e9, e10]
  exact ⟨_, rfl, h0, h1, h2, h3, h4, h5, h6, h7, h8, h9, h10⟩

section
variable {c : T_api_Config}
theorem rChunks_eq (h : RightC c) : m_ref02_Layout_Chunks ⟨c⟩ = some ((c.Pages + 3) / 4) := by
  have := h.pages
  unfold m_ref02_Layout_Chunks
  simp only
  rw [wrap_id (x := c.Pages + 3) (by omega) (by omega), Int.tdiv_eq_ediv_of_nonneg (by omega), wrap_id (by omega) (by omega)]
theorem rtable_eq (h : RightC c) : m_ref02_Layout_table ⟨c⟩ = some (layC c).at_0 := by
  have := h.stripes
  unfold m_ref02_Layout_table
  simp only [layC]
  rw [wrap_id (by omega) (by omega)]
theorem rheads_eq (h : RightC c) : m_ref02_Layout_heads ⟨c⟩ = some (layC c).at_6 := by
  have := h.stripes; have := h.pages
  unfold m_ref02_Layout_heads
  rw [rtable_eq h, rChunks_eq h]
  simp only [layC, Option.bind_some]
  simp (disch := omega) only [wrap_id]
theorem rcaches_eq (h : RightC c) : m_ref02_Layout_caches ⟨c⟩ = some (layC c).at_7 := by
  have := h.stripes; have := h.pages
  unfold m_ref02_Layout_caches
  rw [rheads_eq h]
  simp only [layC, Option.bind_some]
  simp (disch := omega) only [wrap_id]
theorem rbins_eq (h : RightC c) : m_ref02_Layout_bins ⟨c⟩ = some (layC c).at_8 := by
  have := h.stripes; have := h.pages; have := h.cpus; have := h.cache
  have hp := prodC h
  unfold m_ref02_Layout_bins
  rw [rcaches_eq h]
  simp only [layC, Option.bind_some]
  have e : 5 * c.CPUs = c.CPUs * 5 := Int.mul_comm _ _
  rw [wrap_id (x := 5 * c.CPUs) (by omega) (by omega), wrap_id (x := c.Cache + 1) (by omega) (by omega), e]
  generalize c.CPUs * 5 * (c.Cache + 1) = q at *
  simp (disch := omega) only [wrap_id]
theorem rlive_eq (h : RightC c) : m_ref02_Layout_live ⟨c⟩ = some (layC c).at_9 := by
  have := h.stripes; have := h.pages; have := h.bin
  have hp := prodC h
  unfold m_ref02_Layout_live
  rw [rbins_eq h]
  simp only [layC, Option.bind_some]
  generalize c.CPUs * 5 * (c.Cache + 1) = q at *
  simp (disch := omega) only [wrap_id]
theorem rUser_eq (h : RightC c) : m_ref02_Layout_User ⟨c⟩ = some (layC c).at_10 := by
  have := h.stripes; have := h.pages; have := h.bin
  have hp := prodC h
  unfold m_ref02_Layout_User
  rw [rlive_eq h]
  simp only [layC, Option.bind_some]
  generalize c.CPUs * 5 * (c.Cache + 1) = q at *
  simp (disch := omega) only [wrap_id, Int.tdiv_eq_ediv_of_nonneg, Int.mul_comm 32]
theorem rWords_eq (h : RightC c) : m_ref02_Layout_Words ⟨c⟩ = some (layC c).at_11 := by
  have := h.stripes; have := h.pages; have := h.bin
  have hb := (layC_ok h).big
  unfold m_ref02_Layout_Words
  rw [rUser_eq h]
  have e : (layC c).at_11 = (layC c).at_10 + c.Pages * 32 := rfl
  rw [e]
  generalize (layC c).at_10 = q at *
  simp only [Option.bind_some]
  simp (disch := omega) only [wrap_id, Int.mul_comm 32]
theorem rat_eq (ok : Bool) (a : Int) : m_ref02_at ok a = some (if ok = true then a else 0) := by
  unfold m_ref02_at; cases ok <;> rfl
theorem rTable_eq (h : RightC c) (k : Int) : m_ref02_Layout_Table ⟨c⟩ k = some (lTab (layC c) k) := by
  have := h.stripes; have := h.pages
  unfold m_ref02_Layout_Table
  rw [rtable_eq h, rChunks_eq h]
  simp only [Option.bind_some, rat_eq, lTab]
  have e0 : (layC c).at_0 = 3 + c.Stripes := rfl
  have e1 : (layC c).c = c := rfl
  rw [e0, e1]
  by_cases a : 0 ≤ k
  · rw [decide_eq_true (show k ≥ 0 from a), cond_true]
    by_cases b : k < (c.Pages + 3) / 4
    · rw [decide_eq_true b, if_pos rfl, if_pos ⟨a, b⟩, wrap_id (by omega) (by omega)]
    · rw [decide_eq_false b, if_neg (by decide), if_neg (by omega)]
  · rw [decide_eq_false (show ¬ k ≥ 0 from a), cond_false, if_neg (by decide), if_neg (by omega)]
theorem rpage_eq (h : RightC c) {n p : Int} (hn : 0 ≤ n ∧ n ≤ 4) : m_ref02_Layout_page ⟨c⟩ n p = some (lPg (layC c) ((layC c).at_1 + n * c.Pages) p) := by
  have := h.stripes; have hpg := h.pages
  unfold m_ref02_Layout_page
  rw [rtable_eq h, rChunks_eq h]
  simp only [Option.bind_some, rat_eq, lPg]
  have e0 : (layC c).at_0 = 3 + c.Stripes := rfl
  have e2 : (layC c).at_1 = 3 + c.Stripes + (c.Pages + 3) / 4 := rfl
  have e1 : (layC c).c = c := rfl
  rw [e0, e1, e2]
  have hm := mul_b (x := n) (y := c.Pages) (a := 4) (b := 256) (by omega) (by omega)
  by_cases a : 0 ≤ p
  · rw [decide_eq_true (show p ≥ 0 from a), cond_true]
    by_cases b : p < c.Pages
    · rw [decide_eq_true b, if_pos rfl, if_pos ⟨a, b⟩]
      generalize n * c.Pages = q at *
      simp (disch := omega) only [wrap_id]
    · rw [decide_eq_false b, if_neg (by decide), if_neg (by omega)]
  · rw [decide_eq_false (show ¬ p ≥ 0 from a), cond_false, if_neg (by decide), if_neg (by omega)]
theorem rKind_eq (h : RightC c) (p : Int) : m_ref02_Layout_Kind ⟨c⟩ p = some (lPg (layC c) (layC c).at_1 p) := by
  unfold m_ref02_Layout_Kind; rw [rpage_eq h (by omega), Option.bind_some]; simp
theorem rCount_eq (h : RightC c) (p : Int) : m_ref02_Layout_Count ⟨c⟩ p = some (lPg (layC c) (layC c).at_2 p) := by
  unfold m_ref02_Layout_Count; rw [rpage_eq h (by omega), Option.bind_some]; simp [layC]
theorem rBits_eq (h : RightC c) (p : Int) : m_ref02_Layout_Bits ⟨c⟩ p = some (lPg (layC c) (layC c).at_3 p) := by
  unfold m_ref02_Layout_Bits; rw [rpage_eq h (by omega), Option.bind_some]; simp [layC]
theorem rNext_eq (h : RightC c) (p : Int) : m_ref02_Layout_Next ⟨c⟩ p = some (lPg (layC c) (layC c).at_4 p) := by
  unfold m_ref02_Layout_Next; rw [rpage_eq h (by omega), Option.bind_some]; simp [layC]
theorem rPrev_eq (h : RightC c) (p : Int) : m_ref02_Layout_Prev ⟨c⟩ p = some (lPg (layC c) (layC c).at_5 p) := by
  unfold m_ref02_Layout_Prev; rw [rpage_eq h (by omega), Option.bind_some]; simp [layC]
end

/-- Are words the same? -/
theorem Same_eq {a b : List Int} (ha : a.length ≤ 4611686018427387904) : m_law01_Ints_Same a b = some (decide (a = b)) := by
  unfold m_law01_Ints_Same
  by_cases hl : a.length = b.length
  · have e : (((a.length : Int)) != (b.length : Int)) = false := by simp [hl]
    rw [e, cond_false]
    have key : loopO (fun s => sb_law01_Ints_Same_L1 a b s) 0 = some (decide (a.drop 0 = b.drop 0)) := by
      obtain ⟨r, h1, h2⟩ := loopO_ind (step := fun s => sb_law01_Ints_Same_L1 a b s) (I := fun s => ∃ n : Nat, s = n ∧ n ≤ a.length ∧ (decide (a = b)) = decide (a.drop n = b.drop n))
        (μ := fun s => a.length - s.toNat) (fun r => r = decide (a = b)) (by
          rintro _ ⟨n, rfl, hn, hd⟩
          simp only [sb_law01_Ints_Same_L1]
          by_cases c : n < a.length
          · have c2 : n < b.length := by omega
            have ho : offs (n : Int) 0 = (n : Int) := rfl
            rw [decide_eq_true (show (n : Int) < (a.length : Int) by omega), cond_true, inR_nat c, cond_true, ho, inR_nat c, cond_true, inR_nat c2, cond_true, cond_true, Int.toNat_natCast]
            have g1 : a.getD n 0 = a[n] := by simp [List.getD, c]
            have g2 : b.getD n 0 = b[n] := by simp [List.getD, c2]
            rw [g1, g2]
            have hd' : (a.drop n = b.drop n) ↔ (a[n] = b[n] ∧ a.drop (n + 1) = b.drop (n + 1)) := by
              rw [List.drop_eq_getElem_cons c, List.drop_eq_getElem_cons c2, List.cons.injEq]
            by_cases e : a[n] = b[n]
            · have e2 : (a[n] != b[n]) = false := by simp [e]
              rw [e2, cond_false, wrap_succ (by omega)]
              refine .inl ⟨_, rfl, ⟨n + 1, rfl, c, ?_⟩, by omega⟩
              rw [hd]; simp only [hd', e, true_and]
            · have e2 : (a[n] != b[n]) = true := by simp [e]
              rw [e2, cond_true]
              refine .inr ⟨_, rfl, ?_⟩
              rw [hd]; simp only [hd', e, false_and, decide_false]
          · rw [decide_eq_false (by omega), cond_false]
            refine .inr ⟨_, rfl, ?_⟩
            rw [hd, List.drop_eq_nil_of_le (by omega), List.drop_eq_nil_of_le (by omega)]; simp) 0 ⟨0, rfl, by omega, rfl⟩
      rw [h1, h2]; rfl
    exact key
  · have e : (((a.length : Int)) != (b.length : Int)) = true := by simp; omega
    rw [e, cond_true, decide_eq_false (fun h => hl (by rw [h]))]
end Go.Rx
end

section
/- Contracts. -/
namespace Go.Rx
open Go.Proofs
set_option maxRecDepth 100000
set_option maxHeartbeats 4000000
/-! assart/assartref08.Of -/
def tr_ref08_Of (m_ : Int → Option (Int)) (args : List V) (H : Heap) (K : V → Heap → Prop) : Prop :=
  aC args fun a0 r => aN r <| aInt a0 fun p => aN H <| So (m_ p) fun x => K (vi (x)) []
def sp_ref08_Of (m_ : Int → Option (Int)) : Spec := ⟨tr_ref08_Of m_, (true : Bool)⟩

/-! assart/assartref08.there -/
def tr_ref08_there (m_ : T_assartref02_Layout → Int → Option (Bool)) (args : List V) (H : Heap) (K : V → Heap → Prop) : Prop :=
  aC args fun a0 r => aC r fun a1 r => aN r <| aAgg a0 fun c0 => d_assartref02_Layout c0 fun l2 => aInt a1 fun k => aN H <| So (m_ l2 k) fun x => K (vb (x)) []
def sp_ref08_there (m_ : T_assartref02_Layout → Int → Option (Bool)) : Spec := ⟨tr_ref08_there m_, (true : Bool)⟩

/-! assart/assartref08.Pages -/
def tr_ref08_Pages (m_ : T_assartref02_Layout → Int → Option (Int × Int)) (args : List V) (H : Heap) (K : V → Heap → Prop) : Prop :=
  aC args fun a0 r => aC r fun a1 r => aN r <| aAgg a0 fun c0 => d_assartref02_Layout c0 fun l2 => aInt a1 fun k => aN H <| So (m_ l2 k) fun x => K (.tup [vi (x.1), vi (x.2)]) []
def sp_ref08_Pages (m_ : T_assartref02_Layout → Int → Option (Int × Int)) : Spec := ⟨tr_ref08_Pages m_, (true : Bool)⟩

/-! assart/assartref08.Mapped -/
def tr_ref08_Mapped (m_ : T_assartref02_Layout → Int → (List Int) → Option (Bool)) (args : List V) (H : Heap) (K : V → Heap → Prop) : Prop :=
  aC args fun a0 r => aC r fun a1 r => aC r fun a2 r => aN r <| aAgg a0 fun c0 => d_assartref02_Layout c0 fun l2 => aRow 0 a1 <| aInt a2 fun k => aC H fun b0 r => aN r <| bRow 0 true b0 fun (w : List Int) => So (m_ l2 k w) fun x => K (vb (x)) [.row 0 w true]
def sp_ref08_Mapped (m_ : T_assartref02_Layout → Int → (List Int) → Option (Bool)) : Spec := ⟨tr_ref08_Mapped m_, (true : Bool)⟩

/-! assart/assartref08.Count -/
def tr_ref08_Count (m_ : T_assartref02_Layout → (List Int) → Option (Int)) (args : List V) (H : Heap) (K : V → Heap → Prop) : Prop :=
  aC args fun a0 r => aC r fun a1 r => aN r <| aAgg a0 fun c0 => d_assartref02_Layout c0 fun l2 => aRow 0 a1 <| aC H fun b0 r => aN r <| bRow 0 true b0 fun (w : List Int) => So (m_ l2 w) fun x => K (vi (x)) [.row 0 w true]
def sp_ref08_Count (m_ : T_assartref02_Layout → (List Int) → Option (Int)) : Spec := ⟨tr_ref08_Count m_, (true : Bool)⟩

/-! assart/assartref08.Turn -/
def tr_ref08_Turn (m_ : T_assartref02_Layout → Int → Int → (List Int) → Option (Bool × (List Int))) (args : List V) (H : Heap) (K : V → Heap → Prop) : Prop :=
  aC args fun a0 r => aC r fun a1 r => aC r fun a2 r => aC r fun a3 r => aN r <| aAgg a0 fun c0 => d_assartref02_Layout c0 fun l2 => aRow 0 a1 <| aInt a2 fun k => aInt a3 fun xv => aC H fun b0 r => aN r <| bRow 0 false b0 fun (w : List Int) => So (m_ l2 k xv w) fun x => K (vb (x.1)) [.row 0 (x.2) false]
def sp_ref08_Turn (m_ : T_assartref02_Layout → Int → Int → (List Int) → Option (Bool × (List Int))) : Spec := ⟨tr_ref08_Turn m_, (⟨true, fun i => Nat.beq i 0⟩ : RO)⟩

/-! assart/assartref08.all -/
def tr_ref08_all (m_ : T_assartref02_Layout → Int → Int → Option (Bool)) (args : List V) (H : Heap) (K : V → Heap → Prop) : Prop :=
  aC args fun a0 r => aC r fun a1 r => aC r fun a2 r => aN r <| aAgg a0 fun c0 => d_assartref02_Layout c0 fun l2 => aInt a1 fun p => aInt a2 fun n => aN H <| So (m_ l2 p n) fun x => K (vb (x)) []
def sp_ref08_all (m_ : T_assartref02_Layout → Int → Int → Option (Bool)) : Spec := ⟨tr_ref08_all m_, (true : Bool)⟩

/-! assart/assartref08.Covers -/
def tr_ref08_Covers (m_ : T_assartref02_Layout → Int → Int → (List Int) → Option (Bool)) (args : List V) (H : Heap) (K : V → Heap → Prop) : Prop :=
  aC args fun a0 r => aC r fun a1 r => aC r fun a2 r => aC r fun a3 r => aN r <| aAgg a0 fun c0 => d_assartref02_Layout c0 fun l2 => aRow 0 a1 <| aInt a2 fun p => aInt a3 fun n => aC H fun b0 r => aN r <| bRow 0 true b0 fun (w : List Int) => So (m_ l2 p n w) fun x => K (vb (x)) [.row 0 w true]
def sp_ref08_Covers (m_ : T_assartref02_Layout → Int → Int → (List Int) → Option (Bool)) : Spec := ⟨tr_ref08_Covers m_, (true : Bool)⟩

/-! assart/assartref08.Ensure -/
def tr_ref08_Ensure (m_ : T_assartref02_Layout → Int → Int → (List Int) → Option (Int × (List Int))) (args : List V) (H : Heap) (K : V → Heap → Prop) : Prop :=
  aC args fun a0 r => aC r fun a1 r => aC r fun a2 r => aC r fun a3 r => aN r <| aAgg a0 fun c0 => d_assartref02_Layout c0 fun l2 => aRow 0 a1 <| aInt a2 fun p => aInt a3 fun n => aC H fun b0 r => aN r <| bRow 0 false b0 fun (w : List Int) => So (m_ l2 p n w) fun x => K (vi (x.1)) [.row 0 (x.2) false]
def sp_ref08_Ensure (m_ : T_assartref02_Layout → Int → Int → (List Int) → Option (Int × (List Int))) : Spec := ⟨tr_ref08_Ensure m_, (⟨true, fun i => Nat.beq i 0⟩ : RO)⟩

noncomputable def cfg_ref08_Of  : Cfg := { cfgB with
  sigs := sigN }

noncomputable def cfg_ref08_there (m_ref02_Layout_Chunks : T_assartref02_Layout → Option (Int)) : Cfg := { cfgB with
  sigs := (sigC 143 (sp_ref02_Layout_Chunks m_ref02_Layout_Chunks) sigN) }

noncomputable def cfg_ref08_Pages (m_ref08_there : T_assartref02_Layout → Int → Option (Bool)) : Cfg := { cfgB with
  sigs := (sigC 124 (sp_ref08_there m_ref08_there) sigN),
  plan := fun r => match r with | 3 => some (List.range 11, 0) | _ => none }

noncomputable def cfg_ref08_Mapped (m_ref08_there : T_assartref02_Layout → Int → Option (Bool)) (m_ref02_Layout_Table : T_assartref02_Layout → Int → Option (Int)) : Cfg := { cfgB with
  sigs := (sigC 124 (sp_ref08_there m_ref08_there) (sigC 125 (sp_ref02_Layout_Table m_ref02_Layout_Table) sigN)) }

noncomputable def cfg_ref08_Count (m_ref08_Of : Int → Option (Int)) (m_ref08_Mapped : T_assartref02_Layout → Int → (List Int) → Option (Bool)) : Cfg := { cfgB with
  sigs := (sigC 127 (sp_ref08_Of m_ref08_Of) (sigC 76 (sp_ref08_Mapped m_ref08_Mapped) sigN)),
  keep := fun r => match r with | 3 => some [(1, some 0), (2, none), (5, none), (6, none)] | _ => none,
  plan := fun r => match r with | 5 => some (List.range 5, 0) | _ => none }

noncomputable def cfg_ref08_Turn (m_ref08_there : T_assartref02_Layout → Int → Option (Bool)) (m_ref08_Mapped : T_assartref02_Layout → Int → (List Int) → Option (Bool)) (m_ref02_Layout_Table : T_assartref02_Layout → Int → Option (Int)) : Cfg := { cfgB with
  sigs := (sigC 124 (sp_ref08_there m_ref08_there) (sigC 76 (sp_ref08_Mapped m_ref08_Mapped) (sigC 125 (sp_ref02_Layout_Table m_ref02_Layout_Table) sigN))) }

noncomputable def cfg_ref08_all  : Cfg := { cfgB with
  sigs := sigN }

noncomputable def cfg_ref08_Covers (m_ref08_all : T_assartref02_Layout → Int → Int → Option (Bool)) (m_ref08_Of : Int → Option (Int)) (m_ref08_Mapped : T_assartref02_Layout → Int → (List Int) → Option (Bool)) : Cfg := { cfgB with
  sigs := (sigC 126 (sp_ref08_all m_ref08_all) (sigC 127 (sp_ref08_Of m_ref08_Of) (sigC 76 (sp_ref08_Mapped m_ref08_Mapped) sigN))),
  keep := fun r => match r with | 4 => some [(1, some 0), (2, none), (3, none), (4, none), (9, none)] | _ => none,
  plan := fun r => match r with | 6 => some (List.range 6, 0) | _ => none }

noncomputable def cfg_ref08_Ensure (m_ref08_all : T_assartref02_Layout → Int → Int → Option (Bool)) (m_ref08_Count : T_assartref02_Layout → (List Int) → Option (Int)) (m_ref08_Of : Int → Option (Int)) (m_ref08_Turn : T_assartref02_Layout → Int → Int → (List Int) → Option (Bool × (List Int))) : Cfg := { cfgB with
  sigs := (sigC 126 (sp_ref08_all m_ref08_all) (sigC 79 (sp_ref08_Count m_ref08_Count) (sigC 127 (sp_ref08_Of m_ref08_Of) (sigC 75 (sp_ref08_Turn m_ref08_Turn) sigN)))),
  keep := fun r => match r with | 5 => some [(1, some 0), (2, none), (3, none), (4, none), (9, none), (10, none)] | _ => none,
  plan := fun r => match r with | 7 => some (List.range 5, 1) | _ => none }

theorem nf_ref08_Of (p : Int) (K : V → Heap → Prop) : (exF cfg_ref08_Of Try.f127 [vi p] [] K) = (
    br (Decidable.decide (p < 0)) (K (vi (-1)) []) (K (vi (IntKind.wrap IntKind.i64 (Int.tdiv p 4))) [])) := by
  kernel_rfl

theorem nf_ref08_there (m_ref02_Layout_Chunks : T_assartref02_Layout → Option (Int)) (l2 : T_assartref02_Layout) (k : Int) (K : V → Heap → Prop) : (exF (cfg_ref08_there m_ref02_Layout_Chunks) Try.f124 [.agg (e_assartref02_Layout l2), vi k] [] K) = (
    br (Decidable.decide (k ≥ 0)) (So (m_ref02_Layout_Chunks l2) (fun (y0 : Int) => (K (vb (Decidable.decide (k < y0))) []))) (K (vb (Bool.false)) [])) := by
  kernel_rfl

theorem nf_ref08_Pages (m_ref08_there : T_assartref02_Layout → Int → Option (Bool)) (l2 : T_assartref02_Layout) (k : Int) (K : V → Heap → Prop) : (exF (cfg_ref08_Pages m_ref08_there) Try.f144 [.agg (e_assartref02_Layout l2), vi k] [] K) = (
    So (m_ref08_there l2 k) (fun (y0 : Bool) => (br (!y0) (K (.tup [vi (0), vi (0)]) []) (K (.tup [vi (IntKind.wrap IntKind.i64 (4 * k)), vi (if IntKind.wrap IntKind.i64 (T_api_Config.Pages (T_assartref02_Layout.C l2) - IntKind.wrap IntKind.i64 ((4 : Int) * k)) < (4 : Int) then IntKind.wrap IntKind.i64 (T_api_Config.Pages (T_assartref02_Layout.C l2) - IntKind.wrap IntKind.i64 ((4 : Int) * k)) else (4 : Int))]) [])))) := by
  kernel_rfl

theorem nf_ref08_Mapped (m_ref08_there : T_assartref02_Layout → Int → Option (Bool)) (m_ref02_Layout_Table : T_assartref02_Layout → Int → Option (Int)) (l2 : T_assartref02_Layout) (k : Int) (w : List Int) (K : V → Heap → Prop) : (exF (cfg_ref08_Mapped m_ref08_there m_ref02_Layout_Table) Try.f76 [.agg (e_assartref02_Layout l2), .row 0, vi k] [.row 0 w true] K) = (
    So (m_ref08_there l2 k) (fun (y0 : Bool) => (br (y0) (So (m_ref02_Layout_Table l2 k) (fun (y1 : Int) => (Req (inR y1 (List.length w)) (Req (inR (offs y1 0) (List.length w)) (K (vb (List.getD w (Int.toNat (offs y1 0)) 0 == 1)) [.row 0 (w : List (Int)) Bool.true]))))) (K (vb (Bool.false)) [.row 0 (w : List (Int)) Bool.true])))) := by
  kernel_rfl

theorem nf_ref08_Count_L1 (m_ref08_Of : Int → Option (Int)) (m_ref08_Mapped : T_assartref02_Layout → Int → (List Int) → Option (Bool)) (l2 : T_assartref02_Layout) (w : List Int) (n : Int) (p : Int) (K : V → Heap → Prop) (J1 : Env → Heap → Prop) : (ex (cfg_ref08_Count m_ref08_Of m_ref08_Mapped) (⟨22, 1⟩ : Cx) (at_ (bodyOf Try.f79) [1, 1, 0, 1, 0, 0]) (mkEnv [(1, .row 0), (2, .ptr 1 0), (5, vi (n)), (6, vi (p))]) [.row 0 (w : List (Int)) Bool.true, .cells 30 (e_api_Config (Go.Rx.T_assartref02_Layout.C l2))] (roundK (cfg_ref08_Count m_ref08_Of m_ref08_Mapped) (⟨22, 1⟩ : Cx) (at_ (bodyOf Try.f79) [1, 1, 0, 1, 0, 0]) (contK (cfg_ref08_Count m_ref08_Of m_ref08_Mapped) (⟨22, 1⟩ : Cx) (bodyOf Try.f79) [1, 1, 0, 1, 0] (retK (cfg_ref08_Count m_ref08_Of m_ref08_Mapped) Try.f79 1 K)) J1)) = (
    br (Decidable.decide (p < T_api_Config.Pages (T_assartref02_Layout.C l2))) (So (m_ref08_Of p) (fun (y0 : Int) => (So (m_ref08_Mapped l2 y0 w) (fun (y1 : Bool) => (br (y1) (J1 (mkEnv [(1, .row 0), (2, .ptr 1 0), (5, vi (IntKind.wrap IntKind.i64 (n + 1))), (6, vi (IntKind.wrap IntKind.i64 (p + 1)))]) [.row 0 (w : List (Int)) Bool.true, .cells 30 (e_api_Config (T_assartref02_Layout.C l2))]) (J1 (mkEnv [(1, .row 0), (2, .ptr 1 0), (5, vi (n)), (6, vi (IntKind.wrap IntKind.i64 (p + 1)))]) [.row 0 (w : List (Int)) Bool.true, .cells 30 (e_api_Config (T_assartref02_Layout.C l2))])))))) (K (vi (n)) [.row 0 (w : List (Int)) Bool.true])) := by
  kernel_rfl

theorem nf_ref08_Count (m_ref08_Of : Int → Option (Int)) (m_ref08_Mapped : T_assartref02_Layout → Int → (List Int) → Option (Bool)) (l2 : T_assartref02_Layout) (w : List Int) (K : V → Heap → Prop) : (exF (cfg_ref08_Count m_ref08_Of m_ref08_Mapped) Try.f79 [.agg (e_assartref02_Layout l2), .row 0] [.row 0 w true] K) = (
    Loop (cfg_ref08_Count m_ref08_Of m_ref08_Mapped) (⟨22, 1⟩ : Cx) (at_ (bodyOf Try.f79) [1, 1, 0, 1, 0, 0]) (mkEnv [(1, .row 0), (2, .ptr 1 0), (5, vi (0)), (6, vi (0))]) [.row 0 (w : List (Int)) Bool.true, .cells 30 (e_api_Config (T_assartref02_Layout.C l2))] (contK (cfg_ref08_Count m_ref08_Of m_ref08_Mapped) (⟨22, 1⟩ : Cx) (bodyOf Try.f79) [1, 1, 0, 1, 0] (retK (cfg_ref08_Count m_ref08_Of m_ref08_Mapped) Try.f79 1 K))) := by
  kernel_rfl

theorem nf_ref08_Turn (m_ref08_there : T_assartref02_Layout → Int → Option (Bool)) (m_ref08_Mapped : T_assartref02_Layout → Int → (List Int) → Option (Bool)) (m_ref02_Layout_Table : T_assartref02_Layout → Int → Option (Int)) (l2 : T_assartref02_Layout) (k : Int) (xv : Int) (w : List Int) (K : V → Heap → Prop) : (exF (cfg_ref08_Turn m_ref08_there m_ref08_Mapped m_ref02_Layout_Table) Try.f75 [.agg (e_assartref02_Layout l2), .row 0, vi k, vi xv] [.row 0 w false] K) = (
    So (m_ref08_there l2 k) (fun (y0 : Bool) => (br (!y0) (K (vb (Bool.false)) [.row 0 (w : List (Int)) Bool.false]) (So (m_ref08_Mapped l2 k w) (fun (y1 : Bool) => (br (y1 == (xv == 1)) (K (vb (Bool.false)) [.row 0 (w : List (Int)) Bool.false]) (So (m_ref02_Layout_Table l2 k) (fun (y2 : Int) => (Req (inR y2 (List.length w)) (Req (inR (offs y2 0) (List.length w)) (K (vb (Bool.true)) [.row 0 (List.set w (Int.toNat (offs y2 0)) xv : List (Int)) Bool.false]))))))))))) := by
  kernel_rfl

theorem nf_ref08_all (l2 : T_assartref02_Layout) (p : Int) (n : Int) (K : V → Heap → Prop) : (exF cfg_ref08_all Try.f126 [.agg (e_assartref02_Layout l2), vi p, vi n] [] K) = (
    br (Decidable.decide (n ≥ 1)) (br (Decidable.decide (p ≥ 0)) (br (Decidable.decide (p < T_api_Config.Pages (T_assartref02_Layout.C l2))) (K (vb (Decidable.decide (n ≤ IntKind.wrap IntKind.i64 (T_api_Config.Pages (T_assartref02_Layout.C l2) - p)))) []) (K (vb (Bool.false)) [])) (K (vb (Bool.false)) [])) (K (vb (Bool.false)) [])) := by
  kernel_rfl

theorem nf_ref08_Covers_L1 (m_ref08_all : T_assartref02_Layout → Int → Int → Option (Bool)) (m_ref08_Of : Int → Option (Int)) (m_ref08_Mapped : T_assartref02_Layout → Int → (List Int) → Option (Bool)) (l2 : T_assartref02_Layout) (p : Int) (n : Int) (w : List Int) (iv : Int) (K : V → Heap → Prop) (J1 : Env → Heap → Prop) : (ex (cfg_ref08_Covers m_ref08_all m_ref08_Of m_ref08_Mapped) (⟨29, 1⟩ : Cx) (at_ (bodyOf Try.f77) [1, 1, 0, 1, 0, 0]) (mkEnv [(1, .row 0), (2, vi (p)), (3, vi (n)), (4, .ptr 1 0), (9, vi (iv))]) [.row 0 (w : List (Int)) Bool.true, .cells 30 (e_api_Config (Go.Rx.T_assartref02_Layout.C l2))] (roundK (cfg_ref08_Covers m_ref08_all m_ref08_Of m_ref08_Mapped) (⟨29, 1⟩ : Cx) (at_ (bodyOf Try.f77) [1, 1, 0, 1, 0, 0]) (contK (cfg_ref08_Covers m_ref08_all m_ref08_Of m_ref08_Mapped) (⟨29, 1⟩ : Cx) (bodyOf Try.f77) [1, 1, 0, 1, 0] (retK (cfg_ref08_Covers m_ref08_all m_ref08_Of m_ref08_Mapped) Try.f77 1 K)) J1)) = (
    br (Decidable.decide (iv < IntKind.wrap IntKind.i64 (p + n))) (So (m_ref08_Of iv) (fun (y0 : Int) => (So (m_ref08_Mapped l2 y0 w) (fun (y1 : Bool) => (br (!y1) (K (vb (Bool.false)) [.row 0 (w : List (Int)) Bool.true]) (J1 (mkEnv [(1, .row 0), (2, vi (p)), (3, vi (n)), (4, .ptr 1 0), (9, vi (IntKind.wrap IntKind.i64 (iv + 1)))]) [.row 0 (w : List (Int)) Bool.true, .cells 30 (e_api_Config (T_assartref02_Layout.C l2))])))))) (K (vb (Bool.true)) [.row 0 (w : List (Int)) Bool.true])) := by
  kernel_rfl

theorem nf_ref08_Covers (m_ref08_all : T_assartref02_Layout → Int → Int → Option (Bool)) (m_ref08_Of : Int → Option (Int)) (m_ref08_Mapped : T_assartref02_Layout → Int → (List Int) → Option (Bool)) (l2 : T_assartref02_Layout) (p : Int) (n : Int) (w : List Int) (K : V → Heap → Prop) : (exF (cfg_ref08_Covers m_ref08_all m_ref08_Of m_ref08_Mapped) Try.f77 [.agg (e_assartref02_Layout l2), .row 0, vi p, vi n] [.row 0 w true] K) = (
    So (m_ref08_all l2 p n) (fun (y0 : Bool) => (br (!y0) (K (vb (Bool.false)) [.row 0 (w : List (Int)) Bool.true]) (Loop (cfg_ref08_Covers m_ref08_all m_ref08_Of m_ref08_Mapped) (⟨29, 1⟩ : Cx) (at_ (bodyOf Try.f77) [1, 1, 0, 1, 0, 0]) (mkEnv [(1, .row 0), (2, vi (p)), (3, vi (n)), (4, .ptr 1 0), (9, vi (p))]) [.row 0 (w : List (Int)) Bool.true, .cells 30 (e_api_Config (T_assartref02_Layout.C l2))] (contK (cfg_ref08_Covers m_ref08_all m_ref08_Of m_ref08_Mapped) (⟨29, 1⟩ : Cx) (bodyOf Try.f77) [1, 1, 0, 1, 0] (retK (cfg_ref08_Covers m_ref08_all m_ref08_Of m_ref08_Mapped) Try.f77 1 K)))))) := by
  kernel_rfl

theorem nf_ref08_Ensure_L1 (m_ref08_all : T_assartref02_Layout → Int → Int → Option (Bool)) (m_ref08_Count : T_assartref02_Layout → (List Int) → Option (Int)) (m_ref08_Of : Int → Option (Int)) (m_ref08_Turn : T_assartref02_Layout → Int → Int → (List Int) → Option (Bool × (List Int))) (l2 : T_assartref02_Layout) (p : Int) (n : Int) (w : List Int) (was : Int) (iv : Int) (w2 : List Int) (K : V → Heap → Prop) (J1 : Env → Heap → Prop) : (ex (cfg_ref08_Ensure m_ref08_all m_ref08_Count m_ref08_Of m_ref08_Turn) (⟨37, 1⟩ : Cx) (at_ (bodyOf Try.f78) [1, 1, 1, 0, 1, 0, 0]) (mkEnv [(1, .row 0), (2, vi (p)), (3, vi (n)), (4, .ptr 1 0), (9, vi (was)), (10, vi (iv))]) [.row 0 (w2 : List (Int)) Bool.false, .cells 30 (e_api_Config (Go.Rx.T_assartref02_Layout.C l2))] (roundK (cfg_ref08_Ensure m_ref08_all m_ref08_Count m_ref08_Of m_ref08_Turn) (⟨37, 1⟩ : Cx) (at_ (bodyOf Try.f78) [1, 1, 1, 0, 1, 0, 0]) (contK (cfg_ref08_Ensure m_ref08_all m_ref08_Count m_ref08_Of m_ref08_Turn) (⟨37, 1⟩ : Cx) (bodyOf Try.f78) [1, 1, 1, 0, 1, 0] (retK (cfg_ref08_Ensure m_ref08_all m_ref08_Count m_ref08_Of m_ref08_Turn) Try.f78 1 K)) J1)) = (
    br (Decidable.decide (iv < IntKind.wrap IntKind.i64 (p + n))) (So (m_ref08_Of iv) (fun (y0 : Int) => (So (m_ref08_Turn l2 y0 1 w2) (fun (y1 : Bool × List Int) => (J1 (mkEnv [(1, .row 0), (2, vi (p)), (3, vi (n)), (4, .ptr 1 0), (9, vi (was)), (10, vi (IntKind.wrap IntKind.i64 (iv + 1)))]) [.row 0 (Prod.snd y1 : List (Int)) Bool.false, .cells 30 (e_api_Config (T_assartref02_Layout.C l2))]))))) (So (m_ref08_Count l2 w2) (fun (y2 : Int) => (K (vi (IntKind.wrap IntKind.i64 (y2 - was))) [.row 0 (w2 : List (Int)) Bool.false])))) := by
  kernel_rfl

theorem nf_ref08_Ensure (m_ref08_all : T_assartref02_Layout → Int → Int → Option (Bool)) (m_ref08_Count : T_assartref02_Layout → (List Int) → Option (Int)) (m_ref08_Of : Int → Option (Int)) (m_ref08_Turn : T_assartref02_Layout → Int → Int → (List Int) → Option (Bool × (List Int))) (l2 : T_assartref02_Layout) (p : Int) (n : Int) (w : List Int) (K : V → Heap → Prop) : (exF (cfg_ref08_Ensure m_ref08_all m_ref08_Count m_ref08_Of m_ref08_Turn) Try.f78 [.agg (e_assartref02_Layout l2), .row 0, vi p, vi n] [.row 0 w false] K) = (
    So (m_ref08_all l2 p n) (fun (y0 : Bool) => (br (!y0) (K (vi (0)) [.row 0 (w : List (Int)) Bool.false]) (So (m_ref08_Count l2 w) (fun (y1 : Int) => (Loop (cfg_ref08_Ensure m_ref08_all m_ref08_Count m_ref08_Of m_ref08_Turn) (⟨37, 1⟩ : Cx) (at_ (bodyOf Try.f78) [1, 1, 1, 0, 1, 0, 0]) (mkEnv [(1, .row 0), (2, vi (p)), (3, vi (n)), (4, .ptr 1 0), (9, vi (y1)), (10, vi (p))]) [.row 0 (w : List (Int)) Bool.false, .cells 30 (e_api_Config (T_assartref02_Layout.C l2))] (contK (cfg_ref08_Ensure m_ref08_all m_ref08_Count m_ref08_Of m_ref08_Turn) (⟨37, 1⟩ : Cx) (bodyOf Try.f78) [1, 1, 1, 0, 1, 0] (retK (cfg_ref08_Ensure m_ref08_all m_ref08_Count m_ref08_Of m_ref08_Turn) Try.f78 1 K)))))))) := by
  kernel_rfl

noncomputable def m_ref08_Of (p : Int) : Option (Int) :=
  (bif (Decidable.decide (p < 0)) then some ((-1)) else some ((IntKind.wrap IntKind.i64 (Int.tdiv p 4))))

noncomputable def m_ref08_there (l2 : T_assartref02_Layout) (k : Int) : Option (Bool) :=
  (bif (Decidable.decide (k ≥ 0)) then ((m_ref02_Layout_Chunks l2).bind fun y0 => some ((Decidable.decide (k < y0)))) else some ((Bool.false)))

noncomputable def m_ref08_Pages (l2 : T_assartref02_Layout) (k : Int) : Option (Int × Int) :=
  ((m_ref08_there l2 k).bind fun y0 => (bif (!y0) then some (((0), (0))) else some (((IntKind.wrap IntKind.i64 (4 * k)), (if IntKind.wrap IntKind.i64 (T_api_Config.Pages (T_assartref02_Layout.C l2) - IntKind.wrap IntKind.i64 ((4 : Int) * k)) < (4 : Int) then IntKind.wrap IntKind.i64 (T_api_Config.Pages (T_assartref02_Layout.C l2) - IntKind.wrap IntKind.i64 ((4 : Int) * k)) else (4 : Int))))))

noncomputable def m_ref08_Mapped (l2 : T_assartref02_Layout) (k : Int) (w : List Int) : Option (Bool) :=
  ((m_ref08_there l2 k).bind fun y0 => (bif (y0) then ((m_ref02_Layout_Table l2 k).bind fun y1 => (bif (inR y1 (List.length w)) then (bif (inR (offs y1 0) (List.length w)) then some ((List.getD w (Int.toNat (offs y1 0)) 0 == 1)) else none) else none)) else some ((Bool.false))))

noncomputable def sb_ref08_Count_L1 (l2 : T_assartref02_Layout) (w : List Int) (n : Int) (p : Int) : Option ((Int × Int) ⊕ (Int)) :=
  (bif (Decidable.decide (p < T_api_Config.Pages (T_assartref02_Layout.C l2))) then ((m_ref08_Of p).bind fun y0 => ((m_ref08_Mapped l2 y0 w).bind fun y1 => (bif (y1) then some (.inl ((IntKind.wrap IntKind.i64 (n + 1)), (IntKind.wrap IntKind.i64 (p + 1)))) else some (.inl ((n), (IntKind.wrap IntKind.i64 (p + 1))))))) else some (.inr ((n))))

noncomputable def lp_ref08_Count_L1 (l2 : T_assartref02_Layout) (w : List Int) (s : Int × Int) : Option (Int) :=
  loopO (fun s => sb_ref08_Count_L1 l2 w s.1 s.2) s

noncomputable def m_ref08_Count (l2 : T_assartref02_Layout) (w : List Int) : Option (Int) :=
  (lp_ref08_Count_L1 l2 w ((0), (0)))

noncomputable def m_ref08_Turn (l2 : T_assartref02_Layout) (k : Int) (xv : Int) (w : List Int) : Option (Bool × (List Int)) :=
  ((m_ref08_there l2 k).bind fun y0 => (bif (!y0) then some (((Bool.false), (w))) else ((m_ref08_Mapped l2 k w).bind fun y1 => (bif (y1 == (xv == 1)) then some (((Bool.false), (w))) else ((m_ref02_Layout_Table l2 k).bind fun y2 => (bif (inR y2 (List.length w)) then (bif (inR (offs y2 0) (List.length w)) then some (((Bool.true), (List.set w (Int.toNat (offs y2 0)) xv))) else none) else none))))))

noncomputable def m_ref08_all (l2 : T_assartref02_Layout) (p : Int) (n : Int) : Option (Bool) :=
  (bif (Decidable.decide (n ≥ 1)) then (bif (Decidable.decide (p ≥ 0)) then (bif (Decidable.decide (p < T_api_Config.Pages (T_assartref02_Layout.C l2))) then some ((Decidable.decide (n ≤ IntKind.wrap IntKind.i64 (T_api_Config.Pages (T_assartref02_Layout.C l2) - p)))) else some ((Bool.false))) else some ((Bool.false))) else some ((Bool.false)))

noncomputable def sb_ref08_Covers_L1 (l2 : T_assartref02_Layout) (p : Int) (n : Int) (w : List Int) (iv : Int) : Option ((Int) ⊕ (Bool)) :=
  (bif (Decidable.decide (iv < IntKind.wrap IntKind.i64 (p + n))) then ((m_ref08_Of iv).bind fun y0 => ((m_ref08_Mapped l2 y0 w).bind fun y1 => (bif (!y1) then some (.inr ((Bool.false))) else some (.inl (IntKind.wrap IntKind.i64 (iv + 1)))))) else some (.inr ((Bool.true))))

noncomputable def lp_ref08_Covers_L1 (l2 : T_assartref02_Layout) (p : Int) (n : Int) (w : List Int) (s : Int) : Option (Bool) :=
  loopO (fun s => sb_ref08_Covers_L1 l2 p n w s) s

noncomputable def m_ref08_Covers (l2 : T_assartref02_Layout) (p : Int) (n : Int) (w : List Int) : Option (Bool) :=
  ((m_ref08_all l2 p n).bind fun y0 => (bif (!y0) then some ((Bool.false)) else (lp_ref08_Covers_L1 l2 p n w (p))))

noncomputable def sb_ref08_Ensure_L1 (l2 : T_assartref02_Layout) (p : Int) (n : Int) (was : Int) (iv : Int) (w2 : List Int) : Option ((Int × (List Int)) ⊕ (Int × (List Int))) :=
  (bif (Decidable.decide (iv < IntKind.wrap IntKind.i64 (p + n))) then ((m_ref08_Of iv).bind fun y0 => ((m_ref08_Turn l2 y0 1 w2).bind fun y1 => some (.inl ((IntKind.wrap IntKind.i64 (iv + 1)), (Prod.snd y1))))) else ((m_ref08_Count l2 w2).bind fun y2 => some (.inr (((IntKind.wrap IntKind.i64 (y2 - was)), (w2))))))

noncomputable def lp_ref08_Ensure_L1 (l2 : T_assartref02_Layout) (p : Int) (n : Int) (was : Int) (s : Int × (List Int)) : Option (Int × (List Int)) :=
  loopO (fun s => sb_ref08_Ensure_L1 l2 p n was s.1 s.2) s

noncomputable def m_ref08_Ensure (l2 : T_assartref02_Layout) (p : Int) (n : Int) (w : List Int) : Option (Int × (List Int)) :=
  ((m_ref08_all l2 p n).bind fun y0 => (bif (!y0) then some (((0), (w))) else ((m_ref08_Count l2 w).bind fun y1 => (lp_ref08_Ensure_L1 l2 p n (y1) ((p), (w))))))

attribute [local irreducible] Loop ex exF contK roundK retK at_ bodyOf mkEnv
theorem ok_ref08_Of : SpecOK Try.prog elTT 127 (sp_ref08_Of m_ref08_Of) := by
  refine spec_of_exF (cfg := cfg_ref08_Of) (cfg_ok rfl rfl rfl) sig_nil (fn := Try.f127) (by kernel_rfl) (by kernel_rfl) (by kernel_rfl) ?_
  intro args H K h
  change tr_ref08_Of m_ref08_Of args H K at h
  unfold tr_ref08_Of at h
  replace h := aC_el h
  obtain ⟨a0, _, rfl, h⟩ := h
  replace h := aN_el h
  obtain ⟨rfl, h⟩ := h
  replace h := aInt_el h
  obtain ⟨p, rfl, h⟩ := h
  replace h := aN_el h
  obtain ⟨rfl, h⟩ := h
  refine Eq.mpr (nf_ref08_Of p K) ?_
  unfold m_ref08_Of at h
  revert h
  exact br_So (fun h => h) (fun h => h)

theorem ok_ref08_there : SpecOK Try.prog elTT 124 (sp_ref08_there m_ref08_there) := by
  refine spec_of_exF (cfg := (cfg_ref08_there m_ref02_Layout_Chunks)) (cfg_ok rfl rfl rfl) (sig_cons ok_ref02_Layout_Chunks sig_nil) (fn := Try.f124) (by kernel_rfl) (by kernel_rfl) (by kernel_rfl) ?_
  intro args H K h
  change tr_ref08_there m_ref08_there args H K at h
  unfold tr_ref08_there at h
  replace h := aC_el h
  obtain ⟨a0, _, rfl, h⟩ := h
  replace h := aC_el h
  obtain ⟨a1, _, rfl, h⟩ := h
  replace h := aN_el h
  obtain ⟨rfl, h⟩ := h
  replace h := aAgg_el h
  obtain ⟨c0, rfl, h⟩ := h
  replace h := d_assartref02_Layout_el h
  obtain ⟨l2, rfl, h⟩ := h
  replace h := aInt_el h
  obtain ⟨k, rfl, h⟩ := h
  replace h := aN_el h
  obtain ⟨rfl, h⟩ := h
  refine Eq.mpr (nf_ref08_there m_ref02_Layout_Chunks l2 k K) ?_
  unfold m_ref08_there at h
  revert h
  exact br_So (bind_So fun y0 => fun h => h) (fun h => h)

theorem ok_ref08_Pages : SpecOK Try.prog elTT 144 (sp_ref08_Pages m_ref08_Pages) := by
  refine spec_of_exF (cfg := (cfg_ref08_Pages m_ref08_there)) (cfg_ok rfl rfl rfl) (sig_cons ok_ref08_there sig_nil) (fn := Try.f144) (by kernel_rfl) (by kernel_rfl) (by kernel_rfl) ?_
  intro args H K h
  change tr_ref08_Pages m_ref08_Pages args H K at h
  unfold tr_ref08_Pages at h
  replace h := aC_el h
  obtain ⟨a0, _, rfl, h⟩ := h
  replace h := aC_el h
  obtain ⟨a1, _, rfl, h⟩ := h
  replace h := aN_el h
  obtain ⟨rfl, h⟩ := h
  replace h := aAgg_el h
  obtain ⟨c0, rfl, h⟩ := h
  replace h := d_assartref02_Layout_el h
  obtain ⟨l2, rfl, h⟩ := h
  replace h := aInt_el h
  obtain ⟨k, rfl, h⟩ := h
  replace h := aN_el h
  obtain ⟨rfl, h⟩ := h
  refine Eq.mpr (nf_ref08_Pages m_ref08_there l2 k K) ?_
  unfold m_ref08_Pages at h
  revert h
  exact bind_So fun y0 => br_So (fun h => h) (fun h => h)

theorem ok_ref08_Mapped : SpecOK Try.prog elTT 76 (sp_ref08_Mapped m_ref08_Mapped) := by
  refine spec_of_exF (cfg := (cfg_ref08_Mapped m_ref08_there m_ref02_Layout_Table)) (cfg_ok rfl rfl rfl) (sig_cons ok_ref08_there (sig_cons ok_ref02_Layout_Table sig_nil)) (fn := Try.f76) (by kernel_rfl) (by kernel_rfl) (by kernel_rfl) ?_
  intro args H K h
  change tr_ref08_Mapped m_ref08_Mapped args H K at h
  unfold tr_ref08_Mapped at h
  replace h := aC_el h
  obtain ⟨a0, _, rfl, h⟩ := h
  replace h := aC_el h
  obtain ⟨a1, _, rfl, h⟩ := h
  replace h := aC_el h
  obtain ⟨a2, _, rfl, h⟩ := h
  replace h := aN_el h
  obtain ⟨rfl, h⟩ := h
  replace h := aAgg_el h
  obtain ⟨c0, rfl, h⟩ := h
  replace h := d_assartref02_Layout_el h
  obtain ⟨l2, rfl, h⟩ := h
  replace h := aRow_el h
  obtain ⟨rfl, h⟩ := h
  replace h := aInt_el h
  obtain ⟨k, rfl, h⟩ := h
  replace h := aC_el h
  obtain ⟨b0, _, rfl, h⟩ := h
  replace h := aN_el h
  obtain ⟨rfl, h⟩ := h
  replace h := bRow_el h
  obtain ⟨(w : List Int), rfl, h⟩ := h
  refine Eq.mpr (nf_ref08_Mapped m_ref08_there m_ref02_Layout_Table l2 k w K) ?_
  unfold m_ref08_Mapped at h
  revert h
  exact bind_So fun y0 => br_So (bind_So fun y1 => req_So (req_So (fun h => h))) (fun h => h)

theorem lpok_ref08_Count_L1 (l2 : T_assartref02_Layout) (w : List Int) (n : Int) (p : Int) (K : V → Heap → Prop) : So (lp_ref08_Count_L1 (l2) (w) (n, p)) (fun (x : Int) => K (vi (x)) [.row 0 w true]) → Loop (cfg_ref08_Count m_ref08_Of m_ref08_Mapped) (⟨22, 1⟩ : Cx) (at_ (bodyOf Try.f79) [1, 1, 0, 1, 0, 0]) (mkEnv [(1, .row 0), (2, .ptr 1 0), (5, vi (n)), (6, vi (p))]) [.row 0 (w : List (Int)) Bool.true, .cells 30 (e_api_Config (T_assartref02_Layout.C l2))] (contK (cfg_ref08_Count m_ref08_Of m_ref08_Mapped) (⟨22, 1⟩ : Cx) (bodyOf Try.f79) [1, 1, 0, 1, 0] (retK (cfg_ref08_Count m_ref08_Of m_ref08_Mapped) Try.f79 1 K)) := by
  refine loopK_So (fun (s_ : Int × Int) => (mkEnv [(1, .row 0), (2, .ptr 1 0), (5, vi ((s_.1))), (6, vi ((s_.2)))])) (fun (s_ : Int × Int) => [.row 0 (w : List (Int)) Bool.true, .cells 30 (e_api_Config (T_assartref02_Layout.C l2))]) (fun (x : Int) => K (vi (x)) [.row 0 w true]) ?_ (n, p)
  intro s_ J1 h
  clear n
  clear p
  obtain ⟨n, p⟩ := s_
  refine Eq.mpr (nf_ref08_Count_L1 m_ref08_Of m_ref08_Mapped l2 w n p K J1) ?_
  have h : So (sb_ref08_Count_L1 (l2) (w) n p) _ := h
  unfold sb_ref08_Count_L1 at h
  revert h
  exact br_So (bind_So fun y0 => bind_So fun y1 => br_So (fun h => h) (fun h => h)) (fun h => h)

theorem ok_ref08_Count : SpecOK Try.prog elTT 79 (sp_ref08_Count m_ref08_Count) := by
  refine spec_of_exF (cfg := (cfg_ref08_Count m_ref08_Of m_ref08_Mapped)) (cfg_ok rfl rfl rfl) (sig_cons ok_ref08_Of (sig_cons ok_ref08_Mapped sig_nil)) (fn := Try.f79) (by kernel_rfl) (by kernel_rfl) (by kernel_rfl) ?_
  intro args H K h
  change tr_ref08_Count m_ref08_Count args H K at h
  unfold tr_ref08_Count at h
  replace h := aC_el h
  obtain ⟨a0, _, rfl, h⟩ := h
  replace h := aC_el h
  obtain ⟨a1, _, rfl, h⟩ := h
  replace h := aN_el h
  obtain ⟨rfl, h⟩ := h
  replace h := aAgg_el h
  obtain ⟨c0, rfl, h⟩ := h
  replace h := d_assartref02_Layout_el h
  obtain ⟨l2, rfl, h⟩ := h
  replace h := aRow_el h
  obtain ⟨rfl, h⟩ := h
  replace h := aC_el h
  obtain ⟨b0, _, rfl, h⟩ := h
  replace h := aN_el h
  obtain ⟨rfl, h⟩ := h
  replace h := bRow_el h
  obtain ⟨(w : List Int), rfl, h⟩ := h
  refine Eq.mpr (nf_ref08_Count m_ref08_Of m_ref08_Mapped l2 w K) ?_
  unfold m_ref08_Count at h
  revert h
  exact lpok_ref08_Count_L1 l2 w (0) (0) K

theorem ok_ref08_Turn : SpecOK Try.prog elTT 75 (sp_ref08_Turn m_ref08_Turn) := by
  refine spec_of_exF (cfg := (cfg_ref08_Turn m_ref08_there m_ref08_Mapped m_ref02_Layout_Table)) (cfg_ok rfl rfl rfl) (sig_cons ok_ref08_there (sig_cons ok_ref08_Mapped (sig_cons ok_ref02_Layout_Table sig_nil))) (fn := Try.f75) (by kernel_rfl) (by kernel_rfl) (by kernel_rfl) ?_
  intro args H K h
  change tr_ref08_Turn m_ref08_Turn args H K at h
  unfold tr_ref08_Turn at h
  replace h := aC_el h
  obtain ⟨a0, _, rfl, h⟩ := h
  replace h := aC_el h
  obtain ⟨a1, _, rfl, h⟩ := h
  replace h := aC_el h
  obtain ⟨a2, _, rfl, h⟩ := h
  replace h := aC_el h
  obtain ⟨a3, _, rfl, h⟩ := h
  replace h := aN_el h
  obtain ⟨rfl, h⟩ := h
  replace h := aAgg_el h
  obtain ⟨c0, rfl, h⟩ := h
  replace h := d_assartref02_Layout_el h
  obtain ⟨l2, rfl, h⟩ := h
  replace h := aRow_el h
  obtain ⟨rfl, h⟩ := h
  replace h := aInt_el h
  obtain ⟨k, rfl, h⟩ := h
  replace h := aInt_el h
  obtain ⟨xv, rfl, h⟩ := h
  replace h := aC_el h
  obtain ⟨b0, _, rfl, h⟩ := h
  replace h := aN_el h
  obtain ⟨rfl, h⟩ := h
  replace h := bRow_el h
  obtain ⟨(w : List Int), rfl, h⟩ := h
  refine Eq.mpr (nf_ref08_Turn m_ref08_there m_ref08_Mapped m_ref02_Layout_Table l2 k xv w K) ?_
  unfold m_ref08_Turn at h
  revert h
  exact bind_So fun y0 => br_So (fun h => h) (bind_So fun y1 => br_So (fun h => h) (bind_So fun y2 => req_So (req_So (fun h => h))))

theorem ok_ref08_all : SpecOK Try.prog elTT 126 (sp_ref08_all m_ref08_all) := by
  refine spec_of_exF (cfg := cfg_ref08_all) (cfg_ok rfl rfl rfl) sig_nil (fn := Try.f126) (by kernel_rfl) (by kernel_rfl) (by kernel_rfl) ?_
  intro args H K h
  change tr_ref08_all m_ref08_all args H K at h
  unfold tr_ref08_all at h
  replace h := aC_el h
  obtain ⟨a0, _, rfl, h⟩ := h
  replace h := aC_el h
  obtain ⟨a1, _, rfl, h⟩ := h
  replace h := aC_el h
  obtain ⟨a2, _, rfl, h⟩ := h
  replace h := aN_el h
  obtain ⟨rfl, h⟩ := h
  replace h := aAgg_el h
  obtain ⟨c0, rfl, h⟩ := h
  replace h := d_assartref02_Layout_el h
  obtain ⟨l2, rfl, h⟩ := h
  replace h := aInt_el h
  obtain ⟨p, rfl, h⟩ := h
  replace h := aInt_el h
  obtain ⟨n, rfl, h⟩ := h
  replace h := aN_el h
  obtain ⟨rfl, h⟩ := h
  refine Eq.mpr (nf_ref08_all l2 p n K) ?_
  unfold m_ref08_all at h
  revert h
  exact br_So (br_So (br_So (fun h => h) (fun h => h)) (fun h => h)) (fun h => h)

theorem lpok_ref08_Covers_L1 (l2 : T_assartref02_Layout) (p : Int) (n : Int) (w : List Int) (iv : Int) (K : V → Heap → Prop) : So (lp_ref08_Covers_L1 (l2) (p) (n) (w) iv) (fun (x : Bool) => K (vb (x)) [.row 0 w true]) → Loop (cfg_ref08_Covers m_ref08_all m_ref08_Of m_ref08_Mapped) (⟨29, 1⟩ : Cx) (at_ (bodyOf Try.f77) [1, 1, 0, 1, 0, 0]) (mkEnv [(1, .row 0), (2, vi (p)), (3, vi (n)), (4, .ptr 1 0), (9, vi (iv))]) [.row 0 (w : List (Int)) Bool.true, .cells 30 (e_api_Config (T_assartref02_Layout.C l2))] (contK (cfg_ref08_Covers m_ref08_all m_ref08_Of m_ref08_Mapped) (⟨29, 1⟩ : Cx) (bodyOf Try.f77) [1, 1, 0, 1, 0] (retK (cfg_ref08_Covers m_ref08_all m_ref08_Of m_ref08_Mapped) Try.f77 1 K)) := by
  refine loopK_So (fun (s_ : Int) => (mkEnv [(1, .row 0), (2, vi (p)), (3, vi (n)), (4, .ptr 1 0), (9, vi ((s_)))])) (fun (s_ : Int) => [.row 0 (w : List (Int)) Bool.true, .cells 30 (e_api_Config (T_assartref02_Layout.C l2))]) (fun (x : Bool) => K (vb (x)) [.row 0 w true]) ?_ iv
  intro s_ J1 h
  clear iv
  revert h; revert s_; intro iv h
  refine Eq.mpr (nf_ref08_Covers_L1 m_ref08_all m_ref08_Of m_ref08_Mapped l2 p n w iv K J1) ?_
  have h : So (sb_ref08_Covers_L1 (l2) (p) (n) (w) iv) _ := h
  unfold sb_ref08_Covers_L1 at h
  revert h
  exact br_So (bind_So fun y0 => bind_So fun y1 => br_So (fun h => h) (fun h => h)) (fun h => h)

theorem ok_ref08_Covers : SpecOK Try.prog elTT 77 (sp_ref08_Covers m_ref08_Covers) := by
  refine spec_of_exF (cfg := (cfg_ref08_Covers m_ref08_all m_ref08_Of m_ref08_Mapped)) (cfg_ok rfl rfl rfl) (sig_cons ok_ref08_all (sig_cons ok_ref08_Of (sig_cons ok_ref08_Mapped sig_nil))) (fn := Try.f77) (by kernel_rfl) (by kernel_rfl) (by kernel_rfl) ?_
  intro args H K h
  change tr_ref08_Covers m_ref08_Covers args H K at h
  unfold tr_ref08_Covers at h
  replace h := aC_el h
  obtain ⟨a0, _, rfl, h⟩ := h
  replace h := aC_el h
  obtain ⟨a1, _, rfl, h⟩ := h
  replace h := aC_el h
  obtain ⟨a2, _, rfl, h⟩ := h
  replace h := aC_el h
  obtain ⟨a3, _, rfl, h⟩ := h
  replace h := aN_el h
  obtain ⟨rfl, h⟩ := h
  replace h := aAgg_el h
  obtain ⟨c0, rfl, h⟩ := h
  replace h := d_assartref02_Layout_el h
  obtain ⟨l2, rfl, h⟩ := h
  replace h := aRow_el h
  obtain ⟨rfl, h⟩ := h
  replace h := aInt_el h
  obtain ⟨p, rfl, h⟩ := h
  replace h := aInt_el h
  obtain ⟨n, rfl, h⟩ := h
  replace h := aC_el h
  obtain ⟨b0, _, rfl, h⟩ := h
  replace h := aN_el h
  obtain ⟨rfl, h⟩ := h
  replace h := bRow_el h
  obtain ⟨(w : List Int), rfl, h⟩ := h
  refine Eq.mpr (nf_ref08_Covers m_ref08_all m_ref08_Of m_ref08_Mapped l2 p n w K) ?_
  unfold m_ref08_Covers at h
  revert h
  exact bind_So fun y0 => br_So (fun h => h) (lpok_ref08_Covers_L1 l2 p n w (p) K)

theorem lpok_ref08_Ensure_L1 (l2 : T_assartref02_Layout) (p : Int) (n : Int) (w : List Int) (was : Int) (iv : Int) (w2 : List Int) (K : V → Heap → Prop) : So (lp_ref08_Ensure_L1 (l2) (p) (n) (was) (iv, w2)) (fun (x : Int × (List Int)) => K (vi (x.1)) [.row 0 (x.2) false]) → Loop (cfg_ref08_Ensure m_ref08_all m_ref08_Count m_ref08_Of m_ref08_Turn) (⟨37, 1⟩ : Cx) (at_ (bodyOf Try.f78) [1, 1, 1, 0, 1, 0, 0]) (mkEnv [(1, .row 0), (2, vi (p)), (3, vi (n)), (4, .ptr 1 0), (9, vi (was)), (10, vi (iv))]) [.row 0 (w2 : List (Int)) Bool.false, .cells 30 (e_api_Config (T_assartref02_Layout.C l2))] (contK (cfg_ref08_Ensure m_ref08_all m_ref08_Count m_ref08_Of m_ref08_Turn) (⟨37, 1⟩ : Cx) (bodyOf Try.f78) [1, 1, 1, 0, 1, 0] (retK (cfg_ref08_Ensure m_ref08_all m_ref08_Count m_ref08_Of m_ref08_Turn) Try.f78 1 K)) := by
  refine loopK_So (fun (s_ : Int × (List Int)) => (mkEnv [(1, .row 0), (2, vi (p)), (3, vi (n)), (4, .ptr 1 0), (9, vi (was)), (10, vi ((s_.1)))])) (fun (s_ : Int × (List Int)) => [.row 0 ((s_.2) : List (Int)) Bool.false, .cells 30 (e_api_Config (T_assartref02_Layout.C l2))]) (fun (x : Int × (List Int)) => K (vi (x.1)) [.row 0 (x.2) false]) ?_ (iv, w2)
  intro s_ J1 h
  clear iv
  clear w2
  obtain ⟨iv, w2⟩ := s_
  refine Eq.mpr (nf_ref08_Ensure_L1 m_ref08_all m_ref08_Count m_ref08_Of m_ref08_Turn l2 p n w was iv w2 K J1) ?_
  have h : So (sb_ref08_Ensure_L1 (l2) (p) (n) (was) iv w2) _ := h
  unfold sb_ref08_Ensure_L1 at h
  revert h
  exact br_So (bind_So fun y0 => bind_So fun y1 => fun h => h) (bind_So fun y2 => fun h => h)

theorem ok_ref08_Ensure : SpecOK Try.prog elTT 78 (sp_ref08_Ensure m_ref08_Ensure) := by
  refine spec_of_exF (cfg := (cfg_ref08_Ensure m_ref08_all m_ref08_Count m_ref08_Of m_ref08_Turn)) (cfg_ok rfl rfl rfl) (sig_cons ok_ref08_all (sig_cons ok_ref08_Count (sig_cons ok_ref08_Of (sig_cons ok_ref08_Turn sig_nil)))) (fn := Try.f78) (by kernel_rfl) (by kernel_rfl) (by kernel_rfl) ?_
  intro args H K h
  change tr_ref08_Ensure m_ref08_Ensure args H K at h
  unfold tr_ref08_Ensure at h
  replace h := aC_el h
  obtain ⟨a0, _, rfl, h⟩ := h
  replace h := aC_el h
  obtain ⟨a1, _, rfl, h⟩ := h
  replace h := aC_el h
  obtain ⟨a2, _, rfl, h⟩ := h
  replace h := aC_el h
  obtain ⟨a3, _, rfl, h⟩ := h
  replace h := aN_el h
  obtain ⟨rfl, h⟩ := h
  replace h := aAgg_el h
  obtain ⟨c0, rfl, h⟩ := h
  replace h := d_assartref02_Layout_el h
  obtain ⟨l2, rfl, h⟩ := h
  replace h := aRow_el h
  obtain ⟨rfl, h⟩ := h
  replace h := aInt_el h
  obtain ⟨p, rfl, h⟩ := h
  replace h := aInt_el h
  obtain ⟨n, rfl, h⟩ := h
  replace h := aC_el h
  obtain ⟨b0, _, rfl, h⟩ := h
  replace h := aN_el h
  obtain ⟨rfl, h⟩ := h
  replace h := bRow_el h
  obtain ⟨(w : List Int), rfl, h⟩ := h
  refine Eq.mpr (nf_ref08_Ensure m_ref08_all m_ref08_Count m_ref08_Of m_ref08_Turn l2 p n w K) ?_
  unfold m_ref08_Ensure at h
  revert h
  exact bind_So fun y0 => br_So (fun h => h) (bind_So fun y1 => lpok_ref08_Ensure_L1 l2 p n w (y1) (p) (w) K)

end Go.Rx
end

section
/- Layer 8, plainly: the program's functions and the document's tell the same. -/
namespace Go.Rx
open Go.Proofs

section
variable {L : T_layout_Layout} {nw : Nat} {cur : List Int}
theorem Unmap_eq (v : VOK L nw cur) (k : Int) : m_chunk_Unmap nw cur L k = some (turnB cur L.c.Pages L.at_0 k 0, turnU cur L.c.Pages L.at_0 k 0) := by
  unfold m_chunk_Unmap; rw [turn_eq v]; rfl
theorem Mapped_eq (v : VOK L nw cur) (k : Int) : m_chunk_Mapped nw cur L k = some (isB cur L.c.Pages L.at_0 k 1) := by
  unfold m_chunk_Mapped; rw [is_eq v]; rfl
theorem Covers_eq (v : VOK L nw cur) {p n : Int} (hp : -9223372036854775808 ≤ p ∧ p ≤ 9223372036854775807) : m_chunk_Covers nw cur L p n = some (coversM cur L.c.Pages L.at_0 p n) := by
  unfold m_chunk_Covers
  rw [span_eq v.lay hp, Option.bind_some]
  unfold coversM
  cases hs : spanB L.c.Pages p n with
  | false => exact loopO_end rfl
  | true =>
    obtain ⟨s1, s2, s3, s4⟩ := span_of hs
    have hpg := v.lay.pages
    rw [if_pos rfl, ensK_span hs, Bool.true_and]
    generalize hm : ((p + n - 1) / 4 - p / 4 + 1).toNat = m
    obtain ⟨r, h1, rfl⟩ := loopO_ind (step := fun s : Bool × Int => sb_chunk_Covers_L1 nw cur L ((p + n - 1) / 4) s.1 s.2)
      (I := fun s => ∃ j : Nat, j ≤ m ∧ s.2 = p / 4 + j ∧ s.1 = allN cur L.c.Pages L.at_0 (p / 4) j)
      (μ := fun s => ((p + n - 1) / 4 + 1 - s.2).toNat) (fun r => r = allN cur L.c.Pages L.at_0 (p / 4) m) (by
        rintro ⟨b, k⟩ ⟨j, hj, e1, e2⟩
        simp only at e1 e2
        subst e1; subst e2
        have hmono : allN cur L.c.Pages L.at_0 (p / 4) j = false → allN cur L.c.Pages L.at_0 (p / 4) m = false := by
          intro hf
          cases hm2 : allN cur L.c.Pages L.at_0 (p / 4) m with
          | false => rfl
          | true => rw [allN_iff.2 (fun i hi => allN_iff.1 hm2 i (by omega))] at hf; exact hf
        simp only [sb_chunk_Covers_L1]
        cases ha : allN cur L.c.Pages L.at_0 (p / 4) j with
        | false => exact .inr ⟨false, rfl, (hmono ha).symm⟩
        | true =>
          rw [cond_true]
          by_cases e : p / 4 + (j : Int) ≤ (p + n - 1) / 4
          · rw [decide_eq_true e, cond_true, Mapped_eq v, Option.bind_some, wrap_id (x := p / 4 + (j : Int) + 1) (by omega) (by omega)]
            refine .inl ⟨_, rfl, ⟨j + 1, by omega, by simp only; omega, ?_⟩, by simp only; omega⟩
            simp only [allN, ha, Bool.true_and]
          · rw [decide_eq_false e, cond_false]
            have ej : j = m := by omega
            subst ej
            exact .inr ⟨true, rfl, ha.symm⟩) (true, p / 4) ⟨0, by omega, by simp, rfl⟩
    exact h1
theorem cntN_le (cur : List Int) (pg tb : Int) : ∀ n : Nat, 0 ≤ cntN cur pg tb n ∧ cntN cur pg tb n ≤ 4 * (n : Int)
  | 0 => by simp [cntN]
  | n + 1 => by
    have h := cntN_le cur pg tb n
    have h2 := pagesN_le pg n
    simp only [cntN]
    cases isB cur pg tb n 1 <;> simp only [cond_true, cond_false] <;> omega
theorem cCount_eq (v : VOK L nw cur) : m_chunk_Count nw cur L = some (countM cur L.c.Pages L.at_0) := by
  unfold m_chunk_Count
  rw [Chunks_eq v.lay, Option.bind_some]
  have hpg := v.lay.pages
  unfold countM
  have hc : (chunksN L.c.Pages : Int) = (L.c.Pages + 3) / 4 := by unfold chunksN; omega
  generalize chunksN L.c.Pages = m at *
  rw [← hc]
  obtain ⟨r, h1, rfl⟩ := loopO_ind (step := fun s : Int × Int => sb_chunk_Count_L1 nw cur L (m : Int) s.1 s.2)
    (I := fun s => ∃ j : Nat, j ≤ m ∧ s = (cntN cur L.c.Pages L.at_0 j, (j : Int))) (μ := fun s => m - s.2.toNat) (fun r => r = cntN cur L.c.Pages L.at_0 m) (by
      rintro _ ⟨j, hj, rfl⟩
      simp only [sb_chunk_Count_L1]
      have hle := cntN_le cur L.c.Pages L.at_0 j
      have hpn := pagesN_le L.c.Pages j
      by_cases e : j < m
      · rw [decide_eq_true (show (j : Int) < (m : Int) by omega), cond_true, Mapped_eq v, Option.bind_some, Pages_eq v.lay, Option.bind_some, wrap_succ (by omega), wrap_id (by omega) (by omega)]
        refine .inl ⟨(cntN cur L.c.Pages L.at_0 (j + 1), ((j + 1 : Nat) : Int)), ?_, ⟨j + 1, e, rfl⟩, by simp only; omega⟩
        simp only [cntN]
        cases isB cur L.c.Pages L.at_0 j 1 <;> simp
      · have ej : j = m := by omega
        subst ej
        rw [decide_eq_false (by omega), cond_false]
        exact .inr ⟨_, rfl, rfl⟩) (0, 0) ⟨0, by omega, rfl⟩
  exact h1
end

/-! The document's. -/
section
variable {c : T_api_Config}
theorem rOf_eq {p : Int} (h : -9223372036854775808 ≤ p ∧ p ≤ 9223372036854775807) : m_ref08_Of p = some (chunkI p) := by
  unfold m_ref08_Of chunkI
  by_cases a : p < 0
  · rw [decide_eq_true a]; rfl
  · rw [decide_eq_false a, Int.tdiv_eq_ediv_of_nonneg (by omega), wrap_id (by omega) (by omega)]; rfl
theorem rthere_eq (h : RightC c) (k : Int) : m_ref08_there ⟨c⟩ k = some (thereB c.Pages k) := by
  unfold m_ref08_there thereB
  rw [rChunks_eq h]
  by_cases a : 0 ≤ k
  · rw [decide_eq_true (show k ≥ 0 from a)]; rfl
  · rw [decide_eq_false (show ¬ k ≥ 0 from a)]; rfl
theorem rMapped_eq (h : RightC c) {w : List Int} (v : VOK (layC c) w.length w) (k : Int) : m_ref08_Mapped ⟨c⟩ k w = some (isB w c.Pages (layC c).at_0 k 1) := by
  unfold m_ref08_Mapped isB
  simp only [rthere_eq h, rTable_eq h, Option.bind_some]
  cases hk : thereB c.Pages k with
  | false => rfl
  | true =>
    obtain ⟨h1, h2⟩ := tab_in v hk
    have ho : offs ((layC c).at_0 + k) 0 = (layC c).at_0 + k := by
      obtain ⟨k1, k2⟩ := there_of hk
      have := v.tab
      have e : (layC c).at_0 + k = ((((layC c).at_0 + k).toNat : Nat) : Int) := by omega
      rw [e]; rfl
    simp only [cond_true, h1, h2, ho, Bool.true_and]
theorem rTurn_eq (h : RightC c) {w : List Int} (v : VOK (layC c) w.length w) (k st : Int) : m_ref08_Turn ⟨c⟩ k st w = some (turnB w c.Pages (layC c).at_0 k st, turnU w c.Pages (layC c).at_0 k st) := by
  unfold m_ref08_Turn turnU turnB
  simp only [rthere_eq h, rTable_eq h, rMapped_eq h v, Option.bind_some]
  cases hk : thereB c.Pages k with
  | false => rfl
  | true =>
    obtain ⟨h1, h2⟩ := tab_in v hk
    have ho : offs ((layC c).at_0 + k) 0 = (layC c).at_0 + k := by
      obtain ⟨k1, k2⟩ := there_of hk
      have := v.tab
      have e : (layC c).at_0 + k = ((((layC c).at_0 + k).toNat : Nat) : Int) := by omega
      rw [e]; rfl
    have e : isB w c.Pages (layC c).at_0 k 1 = (w.getD ((layC c).at_0 + k).toNat 0 == 1) := by unfold isB; rw [hk]; rfl
    rw [e]
    simp only [Bool.not_true, cond_false, h1, h2, ho, cond_true, Bool.true_and]
    cases (w.getD ((layC c).at_0 + k).toNat 0 == 1) == (st == 1) <;> rfl
theorem VOK.turn' {w : List Int} {L : T_layout_Layout} (v : VOK L w.length w) (k st : Int) : VOK L (turnU w L.c.Pages L.at_0 k st).length (turnU w L.c.Pages L.at_0 k st) := ⟨v.lay, rfl, by rw [turnU_len]; exact v.all⟩
theorem rall_eq (h : RightC c) (p n : Int) : m_ref08_all ⟨c⟩ p n = some (spanB c.Pages p n) := by
  have hpg := h.pages
  unfold m_ref08_all spanB
  by_cases a : 1 ≤ n
  · rw [decide_eq_true (show n ≥ 1 from a)]
    by_cases b : 0 ≤ p
    · rw [decide_eq_true (show p ≥ 0 from b)]
      by_cases d : p < c.Pages
      · rw [decide_eq_true d, wrap_id (x := c.Pages - p) (by omega) (by omega)]; rfl
      · rw [decide_eq_false d]; rfl
    · rw [decide_eq_false (show ¬ p ≥ 0 from b)]; rfl
  · rw [decide_eq_false (show ¬ n ≥ 1 from a)]; rfl
theorem rcN_le (cur : List Int) (pg tb : Int) : ∀ n : Nat, 0 ≤ rcN cur pg tb n ∧ rcN cur pg tb n ≤ (n : Int)
  | 0 => by simp [rcN]
  | n + 1 => by
    have h := rcN_le cur pg tb n
    simp only [rcN]
    cases isB cur pg tb ((n : Int) / 4) 1 <;> simp only [cond_true, cond_false] <;> omega
theorem rCount8_eq (h : RightC c) {w : List Int} (v : VOK (layC c) w.length w) : m_ref08_Count ⟨c⟩ w = some (countM w c.Pages (layC c).at_0) := by
  unfold m_ref08_Count
  have hpg := h.pages
  rw [← rc_count (by omega)]
  have hc : (c.Pages.toNat : Int) = c.Pages := by omega
  obtain ⟨r, h1, rfl⟩ := loopO_ind (step := fun s : Int × Int => sb_ref08_Count_L1 ⟨c⟩ w s.1 s.2)
    (I := fun s => ∃ j : Nat, j ≤ c.Pages.toNat ∧ s = (rcN w c.Pages (layC c).at_0 j, (j : Int))) (μ := fun s => c.Pages.toNat - s.2.toNat) (fun r => r = rcN w c.Pages (layC c).at_0 c.Pages.toNat) (by
      rintro _ ⟨j, hj, rfl⟩
      simp only [sb_ref08_Count_L1]
      have hle := rcN_le w c.Pages (layC c).at_0 j
      by_cases e : j < c.Pages.toNat
      · have hch : chunkI (j : Int) = (j : Int) / 4 := by unfold chunkI; rw [decide_eq_false (by omega)]; rfl
        rw [decide_eq_true (show (j : Int) < c.Pages by omega), cond_true, rOf_eq (by omega), Option.bind_some, rMapped_eq h v, Option.bind_some, wrap_succ (by omega), wrap_id (by omega) (by omega), hch]
        refine .inl ⟨(rcN w c.Pages (layC c).at_0 (j + 1), ((j + 1 : Nat) : Int)), ?_, ⟨j + 1, e, rfl⟩, by simp only; omega⟩
        simp only [rcN]
        cases isB w c.Pages (layC c).at_0 ((j : Int) / 4) 1 <;> simp
      · have ej : j = c.Pages.toNat := by omega
        subst ej
        rw [decide_eq_false (by omega), cond_false]
        exact .inr ⟨_, rfl, rfl⟩) (0, 0) ⟨0, by omega, rfl⟩
  exact h1
theorem rCovers_eq (h : RightC c) {w : List Int} (v : VOK (layC c) w.length w) (p n : Int) : m_ref08_Covers ⟨c⟩ p n w = some (coversM w c.Pages (layC c).at_0 p n) := by
  unfold m_ref08_Covers
  rw [rall_eq h, Option.bind_some]
  cases hs : spanB c.Pages p n with
  | false => unfold coversM; rw [hs]; rfl
  | true =>
    obtain ⟨s1, s2, s3, s4⟩ := span_of hs
    have hpg := h.pages
    rw [← rall_covers hs, Bool.not_true, cond_false]
    obtain ⟨r, h1, rfl⟩ := loopO_ind (step := fun s : Int => sb_ref08_Covers_L1 ⟨c⟩ p n w s)
      (I := fun s => ∃ j : Nat, j ≤ n.toNat ∧ s = p + j ∧ rallN w c.Pages (layC c).at_0 p j = true) (μ := fun s => (p + n - s).toNat) (fun r => r = rallN w c.Pages (layC c).at_0 p n.toNat) (by
        rintro _ ⟨j, hj, rfl, ha⟩
        simp only [sb_ref08_Covers_L1]
        rw [wrap_id (x := p + n) (by omega) (by omega)]
        by_cases e : j < n.toNat
        · have hch : chunkI (p + j) = (p + j) / 4 := by unfold chunkI; rw [decide_eq_false (by omega)]; rfl
          rw [decide_eq_true (show p + (j : Int) < p + n by omega), cond_true, rOf_eq (by omega), Option.bind_some, rMapped_eq h v, Option.bind_some, hch, wrap_id (x := p + (j : Int) + 1) (by omega) (by omega)]
          cases hb : isB w c.Pages (layC c).at_0 ((p + j) / 4) 1 with
          | false =>
            refine .inr ⟨false, rfl, ?_⟩
            cases hall : rallN w c.Pages (layC c).at_0 p n.toNat with
            | false => rfl
            | true => rw [rallN_iff.1 hall j e] at hb; cases hb
          | true => exact .inl ⟨_, rfl, ⟨j + 1, by omega, by omega, by simp only [rallN, ha, hb, Bool.true_and]⟩, by omega⟩
        · have ej : j = n.toNat := by omega
          subst ej
          rw [decide_eq_false (by omega), cond_false]
          exact .inr ⟨_, rfl, ha.symm⟩) p ⟨0, by omega, by simp, rfl⟩
    exact h1
theorem rensN_len (cur : List Int) (pg tb p : Int) : ∀ n, (rensN cur pg tb p n).length = cur.length
  | 0 => rfl
  | n + 1 => by rw [rensN, turnU_len, rensN_len]
theorem rEnsure_eq (h : RightC c) {w : List Int} (v : VOK (layC c) w.length w) (p n : Int) : m_ref08_Ensure ⟨c⟩ p n w = some (ensM w c.Pages (layC c).at_0 p n) := by
  unfold m_ref08_Ensure
  rw [rall_eq h, Option.bind_some]
  cases hs : spanB c.Pages p n with
  | false =>
    have hm : ensK c.Pages p n = 0 := by unfold ensK; rw [hs]; rfl
    unfold ensM; rw [hm]; rfl
  | true =>
    obtain ⟨s1, s2, s3, s4⟩ := span_of hs
    have hpg := h.pages
    rw [Bool.not_true, cond_false, rCount8_eq h v, Option.bind_some]
    have ht := v.tab
    have hv : ∀ j, VOK (layC c) (rensN w c.Pages (layC c).at_0 p j).length (rensN w c.Pages (layC c).at_0 p j) := fun j => ⟨v.lay, rfl, by rw [rensN_len]; exact v.all⟩
    have hcnt : ∀ u : List Int, 0 ≤ countM u c.Pages (layC c).at_0 ∧ countM u c.Pages (layC c).at_0 ≤ 1000 := fun u => by
      have := cntN_le u c.Pages (layC c).at_0 (chunksN c.Pages)
      unfold countM; unfold chunksN at *; omega
    obtain ⟨r, h1, rfl⟩ := loopO_ind (step := fun s : Int × List Int => sb_ref08_Ensure_L1 ⟨c⟩ p n (countM w c.Pages (layC c).at_0) s.1 s.2)
      (I := fun s => ∃ j : Nat, j ≤ n.toNat ∧ s = (p + j, rensN w c.Pages (layC c).at_0 p j)) (μ := fun s => (p + n - s.1).toNat) (fun r => r = ensM w c.Pages (layC c).at_0 p n) (by
        rintro _ ⟨j, hj, rfl⟩
        simp only [sb_ref08_Ensure_L1]
        rw [wrap_id (x := p + n) (by omega) (by omega)]
        by_cases e : j < n.toNat
        · have hch : chunkI (p + j) = (p + j) / 4 := by unfold chunkI; rw [decide_eq_false (by omega)]; rfl
          rw [decide_eq_true (show p + (j : Int) < p + n by omega), cond_true, rOf_eq (by omega), Option.bind_some, rTurn_eq h (hv j), Option.bind_some, hch, wrap_id (x := p + (j : Int) + 1) (by omega) (by omega)]
          refine .inl ⟨(p + ((j + 1 : Nat) : Int), rensN w c.Pages (layC c).at_0 p (j + 1)), ?_, ⟨j + 1, by omega, rfl⟩, by simp only; omega⟩
          simp only [rensN]
          congr 3; omega
        · have ej : j = n.toNat := by omega
          subst ej
          rw [decide_eq_false (by omega), cond_false, rCount8_eq h (hv _), Option.bind_some, rens_all (pg := c.Pages) (by omega) ht.2 hs]
          have hce := count_ens (pg := c.Pages) (tb := (layC c).at_0) (cur := w) (by omega) ht.2 (p / 4) (ensK c.Pages p n)
          have hb := hcnt (ensM w c.Pages (layC c).at_0 p n).2
          have hb0 := hcnt w
          refine .inr ⟨_, rfl, ?_⟩
          unfold ensM at hb ⊢
          rw [hce] at hb ⊢
          rw [wrap_id (by omega) (by omega)]
          have : countM w c.Pages (layC c).at_0 + (ensG c.Pages (layC c).at_0 w (p / 4) (ensK c.Pages p n)).1 - countM w c.Pages (layC c).at_0 = (ensG c.Pages (layC c).at_0 w (p / 4) (ensK c.Pages p n)).1 := by omega
          rw [this]) (p, w) ⟨0, by omega, by simp [rensN]⟩
    exact h1
end
end Go.Rx
end

section
/- Contracts. -/
namespace Go.Rx
open Go.Proofs
set_option maxRecDepth 100000
set_option maxHeartbeats 4000000
/-! assart/assartlaw08.Small -/
def tr_law08_Small (m_ : T_api_Config → Option (T_api_Config)) (args : List V) (H : Heap) (K : V → Heap → Prop) : Prop :=
  aC args fun a0 r => aN r <| aAgg a0 fun c0 => d_api_Config c0 fun c => aN H <| So (m_ c) fun x => K (.agg (e_api_Config (x))) []
def sp_law08_Small (m_ : T_api_Config → Option (T_api_Config)) : Spec := ⟨tr_law08_Small m_, (true : Bool)⟩

/-! assart/assartlaw08.Begin -/
def tr_law08_Begin (m_ : T_api_Config → Option (T_layout_Layout × T_assartref02_Layout × (List Int))) (args : List V) (H : Heap) (K : V → Heap → Prop) : Prop :=
  aC args fun a0 r => aN r <| aAgg a0 fun c0 => d_api_Config c0 fun c => aN H <| So (m_ c) fun x => K (.tup [.agg (e_layout_Layout (x.1)), .agg (e_assartref02_Layout (x.2.1)), .row 0]) [.row 0 (x.2.2) false]
def sp_law08_Begin (m_ : T_api_Config → Option (T_layout_Layout × T_assartref02_Layout × (List Int))) : Spec := ⟨tr_law08_Begin m_, (true : Bool)⟩

/-! assart/assartlaw08.done -/
def tr_law08_done (m_ : Nat → (List Int) → T_layout_Layout → T_assartlaw08_Act → Option (Int × (List Int))) (args : List V) (H : Heap) (K : V → Heap → Prop) : Prop :=
  aC args fun a0 r => aC r fun a1 r => aC r fun a2 r => aN r <| aPtr 0 a0 <| aAgg a1 fun c1 => d_layout_Layout c1 fun l2 => aAgg a2 fun c2 => d_assartlaw08_Act c2 fun a => aC H fun b0 r => aC r fun b1 r => aN r <| bView 1 b0 fun ws cur xs => bRow 0 true b1 fun (l : List Int) => ws = l ∧ xs.length ≤ 2 ∧ So (m_ (ws.length) cur l2 a) fun x => K (vi (x.1)) [.pk 0 [ws, x.2] xs [.row 1], .row 0 l true]
def sp_law08_done (m_ : Nat → (List Int) → T_layout_Layout → T_assartlaw08_Act → Option (Int × (List Int))) : Spec := ⟨tr_law08_done m_, (true : Bool)⟩

/-! assart/assartlaw08.told -/
def tr_law08_told (m_ : T_assartref02_Layout → T_assartlaw08_Act → (List Int) → Option (Int × (List Int))) (args : List V) (H : Heap) (K : V → Heap → Prop) : Prop :=
  aC args fun a0 r => aC r fun a1 r => aC r fun a2 r => aN r <| aAgg a0 fun c0 => d_assartref02_Layout c0 fun rv => aRow 0 a1 <| aAgg a2 fun c2 => d_assartlaw08_Act c2 fun a => aC H fun b0 r => aN r <| bRow 0 false b0 fun (w : List Int) => So (m_ rv a w) fun x => K (vi (x.1)) [.row 0 (x.2) false]
def sp_law08_told (m_ : T_assartref02_Layout → T_assartlaw08_Act → (List Int) → Option (Int × (List Int))) : Spec := ⟨tr_law08_told m_, (⟨true, fun i => Nat.beq i 0⟩ : RO)⟩

noncomputable def cfg_law08_Small (m_law02_Some : T_api_Config → Option (T_api_Config)) : Cfg := { cfgB with
  sigs := (sigC 119 (sp_law02_Some m_law02_Some) sigN) }

noncomputable def cfg_law08_Begin (m_law08_Small : T_api_Config → Option (T_api_Config)) (m_layout_Of : T_api_Config → Option (T_layout_Layout × Int)) (m_ref02_Layout_Words : T_assartref02_Layout → Option (Int)) : Cfg := { cfgB with
  sigs := (sigC 71 (sp_law08_Small m_law08_Small) (sigC 68 (sp_layout_Of m_layout_Of) (sigC 72 (sp_ref02_Layout_Words m_ref02_Layout_Words) sigN))),
  planT := fun r => match r with | 4 => some ((chainT [0, 1, 2, 3] (.alt (chainT [4, 5, 6, 7] .fin) (chainT [5] (.alt (chainT [4, 6, 7] .fin) (chainT [6, 4, 7] .fin))))), 3) | _ => none,
  flag := fun d => Nat.beq d 2 || Nat.beq d 3 }

noncomputable def cfg_law08_done (m_chunk_Map : Nat → (List Int) → T_layout_Layout → Int → Option (Bool × (List Int))) (m_chunk_Unmap : Nat → (List Int) → T_layout_Layout → Int → Option (Bool × (List Int))) (m_chunk_Mapped : Nat → (List Int) → T_layout_Layout → Int → Option (Bool)) (m_chunk_Covers : Nat → (List Int) → T_layout_Layout → Int → Int → Option (Bool)) (m_chunk_Ensure : Nat → (List Int) → T_layout_Layout → Int → Int → Option (Int × (List Int))) (m_chunk_Count : Nat → (List Int) → T_layout_Layout → Option (Int)) : Cfg := { cfgB with
  sigs := (sigC 24 (sp_chunk_Map m_chunk_Map) (sigC 25 (sp_chunk_Unmap m_chunk_Unmap) (sigC 67 (sp_chunk_Mapped m_chunk_Mapped) (sigC 28 (sp_chunk_Covers m_chunk_Covers) (sigC 26 (sp_chunk_Ensure m_chunk_Ensure) (sigC 22 (sp_chunk_Count m_chunk_Count) sigN)))))) }

noncomputable def cfg_law08_told (m_ref08_Turn : T_assartref02_Layout → Int → Int → (List Int) → Option (Bool × (List Int))) (m_ref08_Mapped : T_assartref02_Layout → Int → (List Int) → Option (Bool)) (m_ref08_Covers : T_assartref02_Layout → Int → Int → (List Int) → Option (Bool)) (m_ref08_Ensure : T_assartref02_Layout → Int → Int → (List Int) → Option (Int × (List Int))) (m_ref08_Count : T_assartref02_Layout → (List Int) → Option (Int)) : Cfg := { cfgB with
  sigs := (sigC 75 (sp_ref08_Turn m_ref08_Turn) (sigC 76 (sp_ref08_Mapped m_ref08_Mapped) (sigC 77 (sp_ref08_Covers m_ref08_Covers) (sigC 78 (sp_ref08_Ensure m_ref08_Ensure) (sigC 79 (sp_ref08_Count m_ref08_Count) sigN))))) }

theorem nf_law08_Small (m_law02_Some : T_api_Config → Option (T_api_Config)) (c : T_api_Config) (K : V → Heap → Prop) : (exF (cfg_law08_Small m_law02_Some) Try.f71 [.agg (e_api_Config c)] [] K) = (
    So (m_law02_Some c) (fun (y0 : T_api_Config) => (K (.agg [vi (IntKind.wrap IntKind.i64 (1 + Int.tmod (T_api_Config.Workers y0) 4)), vi (IntKind.wrap IntKind.i64 (1 + Int.tmod (T_api_Config.CPUs y0) 2)), vi (IntKind.wrap IntKind.i64 (1 + Int.tmod (T_api_Config.Pages y0) 9)), vi (IntKind.wrap IntKind.i64 (1 + Int.tmod (T_api_Config.Stripes y0) 4)), vi (T_api_Config.Tries y0), vi (T_api_Config.Wait y0), vi (T_api_Config.Clock y0), vi (IntKind.wrap IntKind.i64 (1 + Int.tmod (T_api_Config.Private y0) 3)), vi (Int.tmod (T_api_Config.Cache y0) 3), vi (Int.tmod (T_api_Config.Bin y0) 4), vi (IntKind.wrap IntKind.i64 (1 + Int.tmod (T_api_Config.Batch y0) 3))]) []))) := by
  kernel_rfl

theorem nf_law08_Begin (m_law08_Small : T_api_Config → Option (T_api_Config)) (m_layout_Of : T_api_Config → Option (T_layout_Layout × Int)) (m_ref02_Layout_Words : T_assartref02_Layout → Option (Int)) (c : T_api_Config) (K : V → Heap → Prop) : (exF (cfg_law08_Begin m_law08_Small m_layout_Of m_ref02_Layout_Words) Try.f15 [.agg (e_api_Config c)] [] K) = (
    So (m_law08_Small c) (fun (y0 : T_api_Config) => (So (m_layout_Of y0) (fun (y1 : T_layout_Layout × Int) => (So (m_ref02_Layout_Words (T_assartref02_Layout.mk y0)) (fun (y2 : Int) => (((Req (Decidable.decide (0 ≤ y2 ∧ y2 ≤ y2 ∧ y2 ≤ 1048576)) (K (.tup [.agg (e_layout_Layout (Prod.fst y1)), .agg (e_api_Config y0), .row 0]) [.row 0 (List.replicate (Int.toNat y2) (0 : Int) : List (Int)) Bool.false])) ∧ (((Req (Decidable.decide (0 ≤ y2 ∧ y2 ≤ y2 ∧ y2 ≤ 1048576)) (K (.tup [.agg (e_layout_Layout (Prod.fst y1)), .agg (e_api_Config y0), .row 0]) [.row 0 (List.replicate (Int.toNat y2) (0 : Int) : List (Int)) Bool.false])) ∧ (Req (Decidable.decide (0 ≤ y2 ∧ y2 ≤ y2 ∧ y2 ≤ 1048576)) (K (.tup [.agg (e_layout_Layout (Prod.fst y1)), .agg (e_api_Config y0), .row 0]) [.row 0 (List.replicate (Int.toNat y2) (0 : Int) : List (Int)) Bool.false])))))))))))) := by
  kernel_rfl

theorem nf_law08_done (m_chunk_Map : Nat → (List Int) → T_layout_Layout → Int → Option (Bool × (List Int))) (m_chunk_Unmap : Nat → (List Int) → T_layout_Layout → Int → Option (Bool × (List Int))) (m_chunk_Mapped : Nat → (List Int) → T_layout_Layout → Int → Option (Bool)) (m_chunk_Covers : Nat → (List Int) → T_layout_Layout → Int → Int → Option (Bool)) (m_chunk_Ensure : Nat → (List Int) → T_layout_Layout → Int → Int → Option (Int × (List Int))) (m_chunk_Count : Nat → (List Int) → T_layout_Layout → Option (Int)) (ws : List Int) (cur : List Int) (xs : List Value) (l2 : T_layout_Layout) (a : T_assartlaw08_Act) (K : V → Heap → Prop) : (exF (cfg_law08_done m_chunk_Map m_chunk_Unmap m_chunk_Mapped m_chunk_Covers m_chunk_Ensure m_chunk_Count) Try.f18 [.ptr 0 0, .agg (e_layout_Layout l2), .agg (e_assartlaw08_Act a)] [.pk 0 [ws, cur] xs [.row 1], .row 0 ws true] K) = (
    br (T_assartlaw08_Act.Kind a == 0) (((ws = ws) ∧ (((List.length xs ≤ 2) ∧ (So (m_chunk_Map (List.length ws) cur l2 (T_assartlaw08_Act.K a)) (fun (y0 : Bool × List Int) => (br (Prod.fst y0) (K (vi (1)) [.pk 0 [ws, Prod.snd y0] (xs) [.row 1], .row 0 (ws : List (Int)) Bool.true]) (K (vi (0)) [.pk 0 [ws, Prod.snd y0] (xs) [.row 1], .row 0 (ws : List (Int)) Bool.true])))))))) (br (T_assartlaw08_Act.Kind a == 1) (((ws = ws) ∧ (((List.length xs ≤ 2) ∧ (So (m_chunk_Unmap (List.length ws) cur l2 (T_assartlaw08_Act.K a)) (fun (y1 : Bool × List Int) => (br (Prod.fst y1) (K (vi (1)) [.pk 0 [ws, Prod.snd y1] (xs) [.row 1], .row 0 (ws : List (Int)) Bool.true]) (K (vi (0)) [.pk 0 [ws, Prod.snd y1] (xs) [.row 1], .row 0 (ws : List (Int)) Bool.true])))))))) (br (T_assartlaw08_Act.Kind a == 2) (((ws = ws) ∧ (((List.length xs ≤ 2) ∧ (So (m_chunk_Mapped (List.length ws) cur l2 (T_assartlaw08_Act.K a)) (fun (y2 : Bool) => (br (y2) (K (vi (1)) [.pk 0 [ws, cur] (xs) [.row 1], .row 0 (ws : List (Int)) Bool.true]) (K (vi (0)) [.pk 0 [ws, cur] (xs) [.row 1], .row 0 (ws : List (Int)) Bool.true])))))))) (br (T_assartlaw08_Act.Kind a == 3) (((ws = ws) ∧ (((List.length xs ≤ 2) ∧ (So (m_chunk_Covers (List.length ws) cur l2 (T_assartlaw08_Act.K a) (T_assartlaw08_Act.N a)) (fun (y3 : Bool) => (br (y3) (K (vi (1)) [.pk 0 [ws, cur] (xs) [.row 1], .row 0 (ws : List (Int)) Bool.true]) (K (vi (0)) [.pk 0 [ws, cur] (xs) [.row 1], .row 0 (ws : List (Int)) Bool.true])))))))) (br (T_assartlaw08_Act.Kind a == 4) (((ws = ws) ∧ (((List.length xs ≤ 2) ∧ (So (m_chunk_Ensure (List.length ws) cur l2 (T_assartlaw08_Act.K a) (T_assartlaw08_Act.N a)) (fun (y4 : Int × List Int) => (K (vi (Prod.fst y4)) [.pk 0 [ws, Prod.snd y4] (xs) [.row 1], .row 0 (ws : List (Int)) Bool.true]))))))) (((ws = ws) ∧ (((List.length xs ≤ 2) ∧ (So (m_chunk_Count (List.length ws) cur l2) (fun (y5 : Int) => (K (vi (y5)) [.pk 0 [ws, cur] (xs) [.row 1], .row 0 (ws : List (Int)) Bool.true])))))))))))) := by
  kernel_rfl

theorem nf_law08_told (m_ref08_Turn : T_assartref02_Layout → Int → Int → (List Int) → Option (Bool × (List Int))) (m_ref08_Mapped : T_assartref02_Layout → Int → (List Int) → Option (Bool)) (m_ref08_Covers : T_assartref02_Layout → Int → Int → (List Int) → Option (Bool)) (m_ref08_Ensure : T_assartref02_Layout → Int → Int → (List Int) → Option (Int × (List Int))) (m_ref08_Count : T_assartref02_Layout → (List Int) → Option (Int)) (rv : T_assartref02_Layout) (a : T_assartlaw08_Act) (w : List Int) (K : V → Heap → Prop) : (exF (cfg_law08_told m_ref08_Turn m_ref08_Mapped m_ref08_Covers m_ref08_Ensure m_ref08_Count) Try.f19 [.agg (e_assartref02_Layout rv), .row 0, .agg (e_assartlaw08_Act a)] [.row 0 w false] K) = (
    br (T_assartlaw08_Act.Kind a == 0) (So (m_ref08_Turn rv (T_assartlaw08_Act.K a) 1 w) (fun (y0 : Bool × List Int) => (br (Prod.fst y0) (K (vi (1)) [.row 0 (Prod.snd y0 : List (Int)) Bool.false]) (K (vi (0)) [.row 0 (Prod.snd y0 : List (Int)) Bool.false])))) (br (T_assartlaw08_Act.Kind a == 1) (So (m_ref08_Turn rv (T_assartlaw08_Act.K a) 0 w) (fun (y1 : Bool × List Int) => (br (Prod.fst y1) (K (vi (1)) [.row 0 (Prod.snd y1 : List (Int)) Bool.false]) (K (vi (0)) [.row 0 (Prod.snd y1 : List (Int)) Bool.false])))) (br (T_assartlaw08_Act.Kind a == 2) (So (m_ref08_Mapped rv (T_assartlaw08_Act.K a) w) (fun (y2 : Bool) => (br (y2) (K (vi (1)) [.row 0 (w : List (Int)) Bool.false]) (K (vi (0)) [.row 0 (w : List (Int)) Bool.false])))) (br (T_assartlaw08_Act.Kind a == 3) (So (m_ref08_Covers rv (T_assartlaw08_Act.K a) (T_assartlaw08_Act.N a) w) (fun (y3 : Bool) => (br (y3) (K (vi (1)) [.row 0 (w : List (Int)) Bool.false]) (K (vi (0)) [.row 0 (w : List (Int)) Bool.false])))) (br (T_assartlaw08_Act.Kind a == 4) (So (m_ref08_Ensure rv (T_assartlaw08_Act.K a) (T_assartlaw08_Act.N a) w) (fun (y4 : Int × List Int) => (K (vi (Prod.fst y4)) [.row 0 (Prod.snd y4 : List (Int)) Bool.false]))) (So (m_ref08_Count rv w) (fun (y5 : Int) => (K (vi (y5)) [.row 0 (w : List (Int)) Bool.false])))))))) := by
  kernel_rfl

noncomputable def m_law08_Small (c : T_api_Config) : Option (T_api_Config) :=
  ((m_law02_Some c).bind fun y0 => some (((T_api_Config.mk (IntKind.wrap IntKind.i64 (1 + Int.tmod (T_api_Config.Workers y0) 4)) (IntKind.wrap IntKind.i64 (1 + Int.tmod (T_api_Config.CPUs y0) 2)) (IntKind.wrap IntKind.i64 (1 + Int.tmod (T_api_Config.Pages y0) 9)) (IntKind.wrap IntKind.i64 (1 + Int.tmod (T_api_Config.Stripes y0) 4)) (T_api_Config.Tries y0) (T_api_Config.Wait y0) (T_api_Config.Clock y0) (IntKind.wrap IntKind.i64 (1 + Int.tmod (T_api_Config.Private y0) 3)) (Int.tmod (T_api_Config.Cache y0) 3) (Int.tmod (T_api_Config.Bin y0) 4) (IntKind.wrap IntKind.i64 (1 + Int.tmod (T_api_Config.Batch y0) 3))))))

noncomputable def m_law08_Begin (c : T_api_Config) : Option (T_layout_Layout × T_assartref02_Layout × (List Int)) :=
  ((m_law08_Small c).bind fun y0 => ((m_layout_Of y0).bind fun y1 => ((m_ref02_Layout_Words (T_assartref02_Layout.mk y0)).bind fun y2 => (bif (Decidable.decide (0 ≤ y2 ∧ y2 ≤ y2 ∧ y2 ≤ 1048576)) then some ((((Prod.fst y1)), ((T_assartref02_Layout.mk (y0))), (List.replicate (Int.toNat y2) (0 : Int)))) else none))))

noncomputable def m_law08_done (nw : Nat) (cur : List Int) (l2 : T_layout_Layout) (a : T_assartlaw08_Act) : Option (Int × (List Int)) :=
  (bif (T_assartlaw08_Act.Kind a == 0) then ((m_chunk_Map nw cur l2 (T_assartlaw08_Act.K a)).bind fun y0 => (bif (Prod.fst y0) then some (((1), (Prod.snd y0))) else some (((0), (Prod.snd y0))))) else (bif (T_assartlaw08_Act.Kind a == 1) then ((m_chunk_Unmap nw cur l2 (T_assartlaw08_Act.K a)).bind fun y1 => (bif (Prod.fst y1) then some (((1), (Prod.snd y1))) else some (((0), (Prod.snd y1))))) else (bif (T_assartlaw08_Act.Kind a == 2) then ((m_chunk_Mapped nw cur l2 (T_assartlaw08_Act.K a)).bind fun y2 => (bif (y2) then some (((1), (cur))) else some (((0), (cur))))) else (bif (T_assartlaw08_Act.Kind a == 3) then ((m_chunk_Covers nw cur l2 (T_assartlaw08_Act.K a) (T_assartlaw08_Act.N a)).bind fun y3 => (bif (y3) then some (((1), (cur))) else some (((0), (cur))))) else (bif (T_assartlaw08_Act.Kind a == 4) then ((m_chunk_Ensure nw cur l2 (T_assartlaw08_Act.K a) (T_assartlaw08_Act.N a)).bind fun y4 => some (((Prod.fst y4), (Prod.snd y4)))) else ((m_chunk_Count nw cur l2).bind fun y5 => some (((y5), (cur)))))))))

noncomputable def m_law08_told (rv : T_assartref02_Layout) (a : T_assartlaw08_Act) (w : List Int) : Option (Int × (List Int)) :=
  (bif (T_assartlaw08_Act.Kind a == 0) then ((m_ref08_Turn rv (T_assartlaw08_Act.K a) 1 w).bind fun y0 => (bif (Prod.fst y0) then some (((1), (Prod.snd y0))) else some (((0), (Prod.snd y0))))) else (bif (T_assartlaw08_Act.Kind a == 1) then ((m_ref08_Turn rv (T_assartlaw08_Act.K a) 0 w).bind fun y1 => (bif (Prod.fst y1) then some (((1), (Prod.snd y1))) else some (((0), (Prod.snd y1))))) else (bif (T_assartlaw08_Act.Kind a == 2) then ((m_ref08_Mapped rv (T_assartlaw08_Act.K a) w).bind fun y2 => (bif (y2) then some (((1), (w))) else some (((0), (w))))) else (bif (T_assartlaw08_Act.Kind a == 3) then ((m_ref08_Covers rv (T_assartlaw08_Act.K a) (T_assartlaw08_Act.N a) w).bind fun y3 => (bif (y3) then some (((1), (w))) else some (((0), (w))))) else (bif (T_assartlaw08_Act.Kind a == 4) then ((m_ref08_Ensure rv (T_assartlaw08_Act.K a) (T_assartlaw08_Act.N a) w).bind fun y4 => some (((Prod.fst y4), (Prod.snd y4)))) else ((m_ref08_Count rv w).bind fun y5 => some (((y5), (w)))))))))

attribute [local irreducible] Loop ex exF contK roundK retK at_ bodyOf mkEnv
theorem ok_law08_Small : SpecOK Try.prog elTT 71 (sp_law08_Small m_law08_Small) := by
  refine spec_of_exF (cfg := (cfg_law08_Small m_law02_Some)) (cfg_ok rfl rfl rfl) (sig_cons ok_law02_Some sig_nil) (fn := Try.f71) (by kernel_rfl) (by kernel_rfl) (by kernel_rfl) ?_
  intro args H K h
  change tr_law08_Small m_law08_Small args H K at h
  unfold tr_law08_Small at h
  replace h := aC_el h
  obtain ⟨a0, _, rfl, h⟩ := h
  replace h := aN_el h
  obtain ⟨rfl, h⟩ := h
  replace h := aAgg_el h
  obtain ⟨c0, rfl, h⟩ := h
  replace h := d_api_Config_el h
  obtain ⟨c, rfl, h⟩ := h
  replace h := aN_el h
  obtain ⟨rfl, h⟩ := h
  refine Eq.mpr (nf_law08_Small m_law02_Some c K) ?_
  unfold m_law08_Small at h
  revert h
  exact bind_So fun y0 => fun h => h

theorem ok_law08_Begin : SpecOK Try.prog elTT 15 (sp_law08_Begin m_law08_Begin) := by
  refine spec_of_exF (cfg := (cfg_law08_Begin m_law08_Small m_layout_Of m_ref02_Layout_Words)) (cfg_ok rfl rfl rfl) (sig_cons ok_law08_Small (sig_cons ok_layout_Of (sig_cons ok_ref02_Layout_Words sig_nil))) (fn := Try.f15) (by kernel_rfl) (by kernel_rfl) (by kernel_rfl) ?_
  intro args H K h
  change tr_law08_Begin m_law08_Begin args H K at h
  unfold tr_law08_Begin at h
  replace h := aC_el h
  obtain ⟨a0, _, rfl, h⟩ := h
  replace h := aN_el h
  obtain ⟨rfl, h⟩ := h
  replace h := aAgg_el h
  obtain ⟨c0, rfl, h⟩ := h
  replace h := d_api_Config_el h
  obtain ⟨c, rfl, h⟩ := h
  replace h := aN_el h
  obtain ⟨rfl, h⟩ := h
  refine Eq.mpr (nf_law08_Begin m_law08_Small m_layout_Of m_ref02_Layout_Words c K) ?_
  unfold m_law08_Begin at h
  revert h
  exact bind_So fun y0 => bind_So fun y1 => bind_So fun y2 => alt_So (req_So (fun h => h)) (alt_So (req_So (fun h => h)) (req_So (fun h => h)))

theorem ok_law08_done : SpecOK Try.prog elTT 18 (sp_law08_done m_law08_done) := by
  refine spec_of_exF (cfg := (cfg_law08_done m_chunk_Map m_chunk_Unmap m_chunk_Mapped m_chunk_Covers m_chunk_Ensure m_chunk_Count)) (cfg_ok rfl rfl rfl) (sig_cons ok_chunk_Map (sig_cons ok_chunk_Unmap (sig_cons ok_chunk_Mapped (sig_cons ok_chunk_Covers (sig_cons ok_chunk_Ensure (sig_cons ok_chunk_Count sig_nil)))))) (fn := Try.f18) (by kernel_rfl) (by kernel_rfl) (by kernel_rfl) ?_
  intro args H K h
  change tr_law08_done m_law08_done args H K at h
  unfold tr_law08_done at h
  replace h := aC_el h
  obtain ⟨a0, _, rfl, h⟩ := h
  replace h := aC_el h
  obtain ⟨a1, _, rfl, h⟩ := h
  replace h := aC_el h
  obtain ⟨a2, _, rfl, h⟩ := h
  replace h := aN_el h
  obtain ⟨rfl, h⟩ := h
  replace h := aPtr_el h
  obtain ⟨rfl, h⟩ := h
  replace h := aAgg_el h
  obtain ⟨c1, rfl, h⟩ := h
  replace h := d_layout_Layout_el h
  obtain ⟨l2, rfl, h⟩ := h
  replace h := aAgg_el h
  obtain ⟨c2, rfl, h⟩ := h
  replace h := d_assartlaw08_Act_el h
  obtain ⟨a, rfl, h⟩ := h
  replace h := aC_el h
  obtain ⟨b0, _, rfl, h⟩ := h
  replace h := aC_el h
  obtain ⟨b1, _, rfl, h⟩ := h
  replace h := aN_el h
  obtain ⟨rfl, h⟩ := h
  replace h := bView_el h
  obtain ⟨ws, cur, xs, rfl, h⟩ := h
  replace h := bRow_el h
  obtain ⟨(l : List Int), rfl, h⟩ := h
  obtain ⟨rfl, hx, h⟩ := h
  refine Eq.mpr (nf_law08_done m_chunk_Map m_chunk_Unmap m_chunk_Mapped m_chunk_Covers m_chunk_Ensure m_chunk_Count ws cur xs l2 a K) ?_
  unfold m_law08_done at h
  revert h
  exact br_So (and_So (by first | exact rfl | assumption | exact trivial | omega) (and_So (by first | exact rfl | assumption | exact trivial | omega) (bind_So fun y0 => br_So (fun h => h) (fun h => h)))) (br_So (and_So (by first | exact rfl | assumption | exact trivial | omega) (and_So (by first | exact rfl | assumption | exact trivial | omega) (bind_So fun y1 => br_So (fun h => h) (fun h => h)))) (br_So (and_So (by first | exact rfl | assumption | exact trivial | omega) (and_So (by first | exact rfl | assumption | exact trivial | omega) (bind_So fun y2 => br_So (fun h => h) (fun h => h)))) (br_So (and_So (by first | exact rfl | assumption | exact trivial | omega) (and_So (by first | exact rfl | assumption | exact trivial | omega) (bind_So fun y3 => br_So (fun h => h) (fun h => h)))) (br_So (and_So (by first | exact rfl | assumption | exact trivial | omega) (and_So (by first | exact rfl | assumption | exact trivial | omega) (bind_So fun y4 => fun h => h))) (and_So (by first | exact rfl | assumption | exact trivial | omega) (and_So (by first | exact rfl | assumption | exact trivial | omega) (bind_So fun y5 => fun h => h)))))))

theorem ok_law08_told : SpecOK Try.prog elTT 19 (sp_law08_told m_law08_told) := by
  refine spec_of_exF (cfg := (cfg_law08_told m_ref08_Turn m_ref08_Mapped m_ref08_Covers m_ref08_Ensure m_ref08_Count)) (cfg_ok rfl rfl rfl) (sig_cons ok_ref08_Turn (sig_cons ok_ref08_Mapped (sig_cons ok_ref08_Covers (sig_cons ok_ref08_Ensure (sig_cons ok_ref08_Count sig_nil))))) (fn := Try.f19) (by kernel_rfl) (by kernel_rfl) (by kernel_rfl) ?_
  intro args H K h
  change tr_law08_told m_law08_told args H K at h
  unfold tr_law08_told at h
  replace h := aC_el h
  obtain ⟨a0, _, rfl, h⟩ := h
  replace h := aC_el h
  obtain ⟨a1, _, rfl, h⟩ := h
  replace h := aC_el h
  obtain ⟨a2, _, rfl, h⟩ := h
  replace h := aN_el h
  obtain ⟨rfl, h⟩ := h
  replace h := aAgg_el h
  obtain ⟨c0, rfl, h⟩ := h
  replace h := d_assartref02_Layout_el h
  obtain ⟨rv, rfl, h⟩ := h
  replace h := aRow_el h
  obtain ⟨rfl, h⟩ := h
  replace h := aAgg_el h
  obtain ⟨c2, rfl, h⟩ := h
  replace h := d_assartlaw08_Act_el h
  obtain ⟨a, rfl, h⟩ := h
  replace h := aC_el h
  obtain ⟨b0, _, rfl, h⟩ := h
  replace h := aN_el h
  obtain ⟨rfl, h⟩ := h
  replace h := bRow_el h
  obtain ⟨(w : List Int), rfl, h⟩ := h
  refine Eq.mpr (nf_law08_told m_ref08_Turn m_ref08_Mapped m_ref08_Covers m_ref08_Ensure m_ref08_Count rv a w K) ?_
  unfold m_law08_told at h
  revert h
  exact br_So (bind_So fun y0 => br_So (fun h => h) (fun h => h)) (br_So (bind_So fun y1 => br_So (fun h => h) (fun h => h)) (br_So (bind_So fun y2 => br_So (fun h => h) (fun h => h)) (br_So (bind_So fun y3 => br_So (fun h => h) (fun h => h)) (br_So (bind_So fun y4 => fun h => h) (bind_So fun y5 => fun h => h)))))

end Go.Rx
end

section
/- Small configurations, plainly. -/
namespace Go.Rx
open Go.Proofs

def I64 (x : Int) : Prop := -9223372036854775808 ≤ x ∧ x ≤ 9223372036854775807

theorem Small_eq (c : T_api_Config) : ∃ d, m_law08_Small c = some d ∧ RightC d := by
  obtain ⟨d, h1, h2⟩ := Some_eq c
  unfold m_law08_Small
  rw [h1, Option.bind_some]
  refine ⟨_, rfl, ?_⟩
  obtain ⟨a, b, d', e, f, g, h', i, j, k, l⟩ := h2
  have md : ∀ x m : Int, 0 ≤ x → 0 < m → m ≤ 10 → Int.tmod x m = x % m ∧ 0 ≤ x % m ∧ x % m < m := fun x m h1 h2 h3 => ⟨Int.tmod_eq_emod_of_nonneg h1, Int.emod_nonneg _ (by omega), Int.emod_lt_of_pos _ h2⟩
  have m1 := md d.Workers 4 (by omega) (by omega) (by omega)
  have m2 := md d.CPUs 2 (by omega) (by omega) (by omega)
  have m3 := md d.Pages 9 (by omega) (by omega) (by omega)
  have m4 := md d.Stripes 4 (by omega) (by omega) (by omega)
  have m5 := md d.Private 3 (by omega) (by omega) (by omega)
  have m6 := md d.Cache 3 (by omega) (by omega) (by omega)
  have m7 := md d.Bin 4 (by omega) (by omega) (by omega)
  have m8 := md d.Batch 3 (by omega) (by omega) (by omega)
  simp only [m1.1, m2.1, m3.1, m4.1, m5.1, m6.1, m7.1, m8.1]
  simp (disch := omega) only [wrap_id]
  exact ⟨by simp only; omega, by simp only; omega, by simp only; omega, by simp only; omega, f, g, h', by simp only; omega, by simp only; omega, by simp only; omega, by simp only; omega⟩

theorem Begin_eq (c : T_api_Config) : ∃ d, RightC d ∧ m_law08_Begin c = some (layC d, ⟨d⟩, List.replicate (layC d).at_11.toNat 0) := by
  obtain ⟨d, h1, h2⟩ := Small_eq c
  have hb := (layC_ok h2).big; have h11 := (layC_ok h2).a11; have hp := (layC_ok h2).pages
  refine ⟨d, h2, ?_⟩
  unfold m_law08_Begin
  rw [h1, Option.bind_some, Of_eq, if_pos h2, Option.bind_some, rWords_eq h2, Option.bind_some, decide_eq_true (by omega)]
  rfl

theorem rep_VOK {L : T_layout_Layout} (h : LayOK L) : VOK L (List.replicate L.at_11.toNat (0 : Int)).length (List.replicate L.at_11.toNat 0) := by
  have hb := h.big; have h11 := h.a11; have hp := h.pages
  exact ⟨h, rfl, by simp; omega⟩
theorem VOK.le {L : T_layout_Layout} {nw : Nat} {cur : List Int} (v : VOK L nw cur) : 128 ≤ nw := by
  have hb := v.lay.big; have h11 := v.lay.a11; have hp := v.lay.pages; have := v.all
  omega

end Go.Rx
end

section
/- A scope that is gone back into by one label: told as a loop. -/
namespace Go.Rx

/-- Jumps, as exits of a block of that number. -/
def deg (G : Nat) : Code → Code
  | .seq a b => .seq (deg G a) (deg G b)
  | .cond c a b => .cond c (deg G a) (deg G b)
  | .goto _ => .exit G
  | c => c
/-- Each jump is to that label, and nothing else leaves by these numbers. -/
def degOk (l B G : Nat) : Code → Bool
  | .seq a b => degOk l B G a && degOk l B G b
  | .cond _ a b => degOk l B G a && degOk l B G b
  | .goto l' => Nat.beq l' l
  | .exit i => !(Nat.beq i G) && !(Nat.beq i B)
  | .skip => true
  | .label _ => true
  | .region _ _ _ => true
  | .ret => true
  | _ => false
def goLoop (B G : Nat) (rest : Code) : Code := .block G (.seq (deg G rest) (.exit B))
def goCode (B G : Nat) (c rest : Code) : Code := .block B (.seq (.block G (.seq (deg G c) (.exit B))) (.loop (goLoop B G rest)))

variable {cfg : Cfg} {cx : Cx} {ds : List Deferred} {ρ0 : List Value} {F0 : Nat → List Nat} {H0 : Heap} {w0 : World}

def QG (cfg : Cfg) (cx : Cx) (ds : List Deferred) (ρ0 : List Value) (F0 : Nat → List Nat) (H0 : Heap) (w0 : World) (l B G : Nat) (K : Ex → Env → Heap → Prop) : Exit → Act → World → Prop
  | .normal, a, w => ∃ ρ F env H, St0 cfg cx ds ρ0 F0 H0 w0 ρ F env H a w ∧ K .normal env H
  | .exit i, a, w => Nat.beq i G = false ∧ Nat.beq i B = false ∧ ∃ ρ F env H, St0 cfg cx ds ρ0 F0 H0 w0 ρ F env H a w ∧ K (.exit i) env H
  | .ret, a, w => ∃ ρ F env H, St0 cfg cx ds ρ0 F0 H0 w0 ρ F env H a w ∧ K .ret env H
  | .goto l', a, w => l' = l ∧ ∃ ρ F env H, St0 cfg cx ds ρ0 F0 H0 w0 ρ F env H a w ∧ K (.exit G) env H
  | _, _, _ => False

theorem exG_sound (ok : CfgOK cfg) (hsig : ∀ g s, cfg.sigs g = some s → SpecOK cfg.P cfg.elT g s) (hp : cx.pins ≤ ρ0.length) {l B G : Nat} : ∀ (c : Code), degOk l B G c = true → ∀ (K : Ex → Env → Heap → Prop) (env : Env) (H : Heap) (ρ : List Value) (F : Nat → List Nat) (a : Act) (w : World),
    ex cfg cx (deg G c) env H K → St0 cfg cx ds ρ0 F0 H0 w0 ρ F env H a w → c.wp cfg.P (QG cfg cx ds ρ0 F0 H0 w0 l B G K) a w := by
  intro c
  induction c with
  | skip => intro _ K env H ρ F a w h hs; exact wp_skip ⟨ρ, F, env, H, hs, h⟩
  | label l => intro _ K env H ρ F a w h hs; exact wp_label ⟨ρ, F, env, H, hs, h⟩
  | ret => intro _ K env H ρ F a w h hs; exact wp_ret ⟨ρ, F, env, H, hs, h⟩
  | exit id =>
    intro hd K env H ρ F a w h hs
    simp only [degOk, Bool.and_eq_true, Bool.not_eq_true'] at hd
    exact wp_exit ⟨hd.1, hd.2, ρ, F, env, H, hs, h⟩
  | goto l' =>
    intro hd K env H ρ F a w h hs
    exact wp_goto ⟨Nat.eq_of_beq_eq_true hd, ρ, F, env, H, hs, h⟩
  | region id ops draw =>
    intro _ K env H ρ F a w h hs
    have h' : ex cfg cx (.region id ops draw) env H (fun e => match e with | .normal => K .normal | _ => fun _ _ => False) := by
      cases draw with
      | false => exact h
      | true => exact h
    refine wp_mono (ex_sound ok hsig hp _ _ env H ρ F a w h' hs) (fun e a w hq => ?_)
    cases e with
    | normal => exact hq
    | exit i => obtain ⟨_, _, _, _, _, hf⟩ := hq; exact hf.elim
    | ret => obtain ⟨_, _, _, _, _, hf⟩ := hq; exact hf.elim
    | goto l => exact hq.elim
    | panic ch => exact hq.elim
    | outgrown => exact hq.elim
  | seq x y ihx ihy =>
    intro hd K env H ρ F a w h hs
    simp only [degOk, Bool.and_eq_true] at hd
    refine wp_seq (wp_mono (ihx hd.1 _ env H ρ F a w h hs) (fun e a w hq => ?_))
    cases e with
    | normal => obtain ⟨ρ', F', env', H', h1, h2⟩ := hq; exact ihy hd.2 K env' H' ρ' F' a w h2 h1
    | exit i => exact hq
    | ret => exact hq
    | goto l => exact hq
    | panic ch => exact hq
    | outgrown => exact hq
  | cond c x y ihx ihy =>
    intro hd K env H ρ F a w h hs
    simp only [degOk, Bool.and_eq_true] at hd
    have h : (match ev env c with
      | .ext (.bool t) => br t (ex cfg cx (deg G x) env H K) (ex cfg cx (deg G y) env H K)
      | _ => False) := h
    split at h
    · rename_i t ht
      have hc := REnv.ev hs.st.env c
      rw [ht] at hc
      have hc := den_ext hc
      refine wp_cond hc ?_
      rcases br_elim h with ⟨rfl, h⟩ | ⟨rfl, h⟩
      · exact ihx hd.1 K env H ρ F a w h hs
      · exact ihy hd.2 K env H ρ F a w h hs
    · exact h.elim
  | block id x ih => intro hd; cases hd
  | loop x ih => intro hd; cases hd
  | scope x ih => intro hd; cases hd
  | rangeFunc f ps x y _ _ => intro hd; cases hd
  | refuse why => intro hd; cases hd

theorem least_ex {p : Nat → Prop} : ∀ n, p n → ∃ m, p m ∧ ∀ k, p k → m ≤ k := by
  intro n
  induction n using Nat.strongRecOn with
  | _ n ih =>
    intro h
    by_cases hx : ∃ k, k < n ∧ p k
    · obtain ⟨k, hk, hp⟩ := hx
      exact ih k hk hp
    · exact ⟨n, h, fun k hk => Nat.le_of_not_lt fun hlt => hx ⟨k, hlt, hk⟩⟩
theorem least_ex' {p : Nat → Prop} (h : ∃ n, p n) : ∃ m, p m ∧ ∀ k, p k → m ≤ k := by
  obtain ⟨n, hn⟩ := h
  exact least_ex n hn
noncomputable def leastN (p : Nat → Prop) : Nat := open Classical in if h : ∃ n, p n then Classical.choose (least_ex' h) else 0
theorem leastN_at {p : Nat → Prop} (h : ∃ n, p n) : p (leastN p) := by
  unfold leastN; rw [dif_pos h]; exact (Classical.choose_spec (least_ex' h)).1
theorem leastN_le {p : Nat → Prop} {n : Nat} (h : p n) : leastN p ≤ n := by
  unfold leastN; rw [dif_pos ⟨n, h⟩]; exact (Classical.choose_spec (least_ex' ⟨n, h⟩)).2 n h

theorem scope_goto (ok : CfgOK cfg) (hsig : ∀ g s, cfg.sigs g = some s → SpecOK cfg.P cfg.elT g s) (hp : cx.pins ≤ ρ0.length) {l B G : Nat} {c rest : Code} (hf : findLabel c l = some rest)
    (hc : degOk l B G c = true) (hr : degOk l B G rest = true) (hBG : Nat.beq B G = false) (hB : cfg.keepB B = none) (hG : cfg.keepB G = none)
    (hu : cfg.unroll (firstRegion (goLoop B G rest)) = none) {K : Ex → Env → Heap → Prop} {env : Env} {H : Heap} {ρ : List Value} {F : Nat → List Nat} {a : Act} {w : World}
    (h : ex cfg cx (goCode B G c rest) env H K) (hs : St0 cfg cx ds ρ0 F0 H0 w0 ρ F env H a w) : (Code.scope c).wp cfg.P (QK cfg cx ds ρ0 F0 H0 w0 K) a w := by
  have hGB : Nat.beq G B = false := by
    cases hx : Nat.beq G B with
    | false => rfl
    | true => rw [Nat.eq_of_beq_eq_true hx] at hBG; simp at hBG
  have hBB : Nat.beq B B = true := by simp
  have hGG : Nat.beq G G = true := by simp
  let K1 := blockK cfg cx B K
  let Lp := fun n => loopM (goLoop B G rest) (ex cfg cx (goLoop B G rest)) (gcO cx.pins (cfg.keep (firstRegion (goLoop B G rest)))) K1 n
  have k1B : ∀ env H, K1 (.exit B) env H → K .normal env H := fun env H h => by
    simp only [K1, blockK, hBB, hB, gcO, cond_true] at h; exact h
  have k1i : ∀ i env H, Nat.beq i B = false → K1 (.exit i) env H → K (.exit i) env H := fun i env H hi h => by
    simp only [K1, blockK, hi, cond_false] at h; exact h
  let Pn := fun (a : Act) (w : World) (n : Nat) => ∃ ρ F env H, St0 cfg cx ds ρ0 F0 H0 w0 ρ F env H a w ∧ Lp n env H
  let J := fun (a : Act) (w : World) => ∃ n, Pn a w n
  have hle : ∀ a w n, Pn a w n → leastN (Pn a w) ≤ n := fun a w n h => leastN_le h
  have hat : ∀ a w, J a w → Pn a w (leastN (Pn a w)) := fun a w h => leastN_at h
  refine wp_scope_jumps l J (fun a w => leastN (Pn a w)) hf ?_ ?_
  · have h1 : ex cfg cx (deg G c) env H (fun e env H => match e with
        | .normal => blockK cfg cx G (fun e env H => match e with
          | .normal => ex cfg cx (.loop (goLoop B G rest)) env H K1
          | .exit i => K1 (.exit i) env H
          | .ret => K1 .ret env H) (.exit B) env H
        | .exit i => blockK cfg cx G (fun e env H => match e with
          | .normal => ex cfg cx (.loop (goLoop B G rest)) env H K1
          | .exit i => K1 (.exit i) env H
          | .ret => K1 .ret env H) (.exit i) env H
        | .ret => K1 .ret env H) := h
    refine wp_mono (exG_sound ok hsig hp c hc _ env H ρ F a w h1 hs) (fun e a w hq => ?_)
    cases e with
    | normal =>
      obtain ⟨ρ', F', env', H', s1, s2⟩ := hq
      simp only [blockK, hBG, cond_false] at s2
      exact ⟨ρ', F', env', H', s1, k1B _ _ s2⟩
    | exit i =>
      obtain ⟨i1, i2, ρ', F', env', H', s1, s2⟩ := hq
      simp only [blockK, i1, cond_false] at s2
      exact ⟨ρ', F', env', H', s1, k1i _ _ _ i2 s2⟩
    | ret =>
      obtain ⟨ρ', F', env', H', s1, s2⟩ := hq
      exact ⟨ρ', F', env', H', s1, s2⟩
    | goto l' =>
      obtain ⟨rfl, ρ', F', env', H', s1, s2⟩ := hq
      simp only [blockK, hGG, hG, gcO, cond_true] at s2
      have s3 : gcO cx.pins (cfg.keep (firstRegion (goLoop B G rest))) env' H' (fun env H => match cfg.unroll (firstRegion (goLoop B G rest)) with
        | some n => loopM (goLoop B G rest) (ex cfg cx (goLoop B G rest)) (gcO cx.pins (cfg.keep (firstRegion (goLoop B G rest)))) K1 n env H
        | none => LoopQ (goLoop B G rest) (ex cfg cx (goLoop B G rest)) (gcO cx.pins (cfg.keep (firstRegion (goLoop B G rest)))) env H K1) := s2
      obtain ⟨ρ2, F2, env2, H2, q1, q2⟩ := gcO_sound hp s3 s1
      rw [hu] at q1
      obtain ⟨n, q1⟩ := q1
      exact ⟨rfl, n, ρ2, F2, env2, H2, q2, q1⟩
    | panic ch => exact hq.elim
    | outgrown => exact hq.elim
  · intro a w hJ
    obtain ⟨ρ', F', env', H', s1, s2⟩ := hat a w hJ
    cases hn : leastN (Pn a w) with
    | zero => rw [hn] at s2; exact s2.elim
    | succ m =>
      rw [hn] at s2
      have h1 : ex cfg cx (deg G rest) env' H' (fun e env H => match e with
        | .normal => blockK cfg cx G (fun e env H => match e with
          | .normal => gcO cx.pins (cfg.keep (firstRegion (goLoop B G rest))) env H (Lp m)
          | .exit i => K1 (.exit i) env H
          | .ret => K1 .ret env H) (.exit B) env H
        | .exit i => blockK cfg cx G (fun e env H => match e with
          | .normal => gcO cx.pins (cfg.keep (firstRegion (goLoop B G rest))) env H (Lp m)
          | .exit i => K1 (.exit i) env H
          | .ret => K1 .ret env H) (.exit i) env H
        | .ret => K1 .ret env H) := s2
      refine wp_mono (exG_sound ok hsig hp rest hr _ env' H' ρ' F' a w h1 s1) (fun e a' w' hq => ?_)
      cases e with
      | normal =>
        obtain ⟨ρ', F', env', H', s1, s2⟩ := hq
        simp only [blockK, hBG, cond_false] at s2
        exact ⟨ρ', F', env', H', s1, k1B _ _ s2⟩
      | exit i =>
        obtain ⟨i1, i2, ρ', F', env', H', s1, s2⟩ := hq
        simp only [blockK, i1, cond_false] at s2
        exact ⟨ρ', F', env', H', s1, k1i _ _ _ i2 s2⟩
      | ret =>
        obtain ⟨ρ', F', env', H', s1, s2⟩ := hq
        exact ⟨ρ', F', env', H', s1, s2⟩
      | goto l' =>
        obtain ⟨rfl, ρ', F', env', H', s1, s2⟩ := hq
        simp only [blockK, hGG, hG, gcO, cond_true] at s2
        obtain ⟨ρ2, F2, env2, H2, q1, q2⟩ := gcO_sound hp (s2 : gcO cx.pins (cfg.keep (firstRegion (goLoop B G rest))) env' H' (Lp m)) s1
        have hP : Pn a' w' m := ⟨ρ2, F2, env2, H2, q2, q1⟩
        have := hle a' w' m hP
        exact ⟨rfl, ⟨m, hP⟩, by omega⟩
      | panic ch => exact hq.elim
      | outgrown => exact hq.elim

/-- A function whose last part is a scope that is gone back into. -/
theorem spec_of_exG (ok : CfgOK cfg) (hsig : ∀ g s, cfg.sigs g = some s → SpecOK cfg.P cfg.elT g s) {g : FuncId} {fn : Func} {s : Spec} {l B G : Nat} {r0 c rest : Code} (hg : cfg.P.funcs[g]? = some fn) (hname : (fn.name == "runtime.NumGoroutine") = false)
    (hb : fn.body = some (.seq r0 (.scope c))) (hf : findLabel c l = some rest) (hc : degOk l B G c = true) (hr : degOk l B G rest = true) (hBG : Nat.beq B G = false) (hB : cfg.keepB B = none) (hG : cfg.keepB G = none)
    (hu : cfg.unroll (firstRegion (goLoop B G rest)) = none)
    (h : ∀ (args : List V) (H : Heap) (K : V → Heap → Prop), s.tr args H K → exF cfg { fn with body := some (.seq r0 (goCode B G c rest)) } args H K) : SpecOK cfg.P cfg.elT g s := by
  refine ⟨⟨fn, hg, hname, by rw [hb]; rfl⟩, fun args H K htr ρ F w vals hden hsat => ?_⟩
  have hex : ex cfg (cxOf fn args H) (.seq r0 (goCode B G c rest)) (argEnv args) H (retK cfg fn H.length K) := h args H K htr
  refine calls_of_wp hg hb ?_
  have hlen := denL_len hden
  have hst : St cfg (cxOf fn args H).nt [] ρ F (argEnv args) H { tmps := vals.toArray ++ Array.replicate (fn.ntmps - vals.toArray.size) undef, defers := [] } w :=
    ⟨argEnv_rel hden _, by simp [cxOf, hlen], rfl, hsat⟩
  have hs0 : St0 cfg (cxOf fn args H) [] ρ F H w ρ F (argEnv args) H { tmps := vals.toArray ++ Array.replicate (fn.ntmps - vals.toArray.size) undef, defers := [] } w :=
    ⟨hst, Fr.refl, fun _ _ => rfl⟩
  have hp : (cxOf fn args H).pins ≤ ρ.length := by rw [hsat.len]; exact Nat.le_refl _
  have hwp : (Code.seq r0 (.scope c)).wp cfg.P (QK cfg (cxOf fn args H) [] ρ F H w (retK cfg fn H.length K)) { tmps := vals.toArray ++ Array.replicate (fn.ntmps - vals.toArray.size) undef, defers := [] } w := by
    refine wp_seq (wp_mono (ex_sound ok hsig hp r0 _ (argEnv args) H ρ F _ w hex hs0) (fun e a w hq => ?_))
    cases e with
    | normal => obtain ⟨ρ', F', env', H', h1, h2⟩ := hq; exact scope_goto ok hsig hp hf hc hr hBG hB hG hu h2 h1
    | exit i => exact hq
    | ret => exact hq
    | goto l => exact hq
    | panic ch => exact hq
    | outgrown => exact hq
  refine wp_mono hwp (fun e a' w' hq => ?_)
  have fin : ∀ (e : Ex) (ρ1 : List Value) (F1 : Nat → List Nat) (env1 : Env) (H1 : Heap), St0 cfg (cxOf fn args H) [] ρ F H w ρ1 F1 env1 H1 a' w' → retK cfg fn H.length K e env1 H1 →
      a'.defers = [] ∧ ∃ v, (results fn a'.tmps).run cfg.P w' = .ok v w' ∧ ∃ v' x ρ' F' H', Ending.returned v = .returned x ∧ K v' H' ∧ Rel ρ' v' x ∧ Le ρ ρ' ∧ Sat cfg.elT ρ' F' H' w' ∧ Fr H F w H' F' w' :=
    fun e ρ1 F1 env1 H1 hs1 hr => ⟨hs1.st.defers, ret_sound hsat hs1 hr⟩
  cases e with
  | normal => obtain ⟨ρ1, F1, env1, H1, h1, h2⟩ := hq; exact fin _ ρ1 F1 env1 H1 h1 h2
  | ret => obtain ⟨ρ1, F1, env1, H1, h1, h2⟩ := hq; exact fin _ ρ1 F1 env1 H1 h1 h2
  | exit i => obtain ⟨ρ1, F1, env1, H1, h1, h2⟩ := hq; exact h2.elim
  | goto l => exact hq.elim
  | panic ch => exact hq.elim
  | outgrown => exact hq.elim
end Go.Rx
end

section
/- Contracts. -/
namespace Go.Rx
open Go.Proofs
set_option maxRecDepth 100000
set_option maxHeartbeats 4000000
/-! assart/class.Size -/
def tr_class_Size (m_ : Int → Option (Int)) (args : List V) (H : Heap) (K : V → Heap → Prop) : Prop :=
  aC args fun a0 r => aN r <| aInt a0 fun c => aN H <| So (m_ c) fun x => K (vi (x)) []
def sp_class_Size (m_ : Int → Option (Int)) : Spec := ⟨tr_class_Size m_, (true : Bool)⟩

/-! assart/class.Slots -/
def tr_class_Slots (m_ : Int → Option (Int)) (args : List V) (H : Heap) (K : V → Heap → Prop) : Prop :=
  aC args fun a0 r => aN r <| aInt a0 fun c => aN H <| So (m_ c) fun x => K (vi (x)) []
def sp_class_Slots (m_ : Int → Option (Int)) : Spec := ⟨tr_class_Slots m_, (true : Bool)⟩

/-! slices.Index[[]int,int] -/
def tr_slices_Index_int_int (m_ : Int → (List Int) → Option (Int)) (args : List V) (H : Heap) (K : V → Heap → Prop) : Prop :=
  aC args fun a0 r => aC r fun a1 r => aN r <| aRow 0 a0 <| aInt a1 fun v => aC H fun b0 r => aN r <| bRow 0 true b0 fun (sv : List Int) => So (m_ v sv) fun x => K (vi (x)) [.row 0 sv true]
def sp_slices_Index_int_int (m_ : Int → (List Int) → Option (Int)) : Spec := ⟨tr_slices_Index_int_int m_, (true : Bool)⟩

/-! slices.Contains[[]int,int] -/
def tr_slices_Contains_int_int (m_ : Int → (List Int) → Option (Bool)) (args : List V) (H : Heap) (K : V → Heap → Prop) : Prop :=
  aC args fun a0 r => aC r fun a1 r => aN r <| aRow 0 a0 <| aInt a1 fun v => aC H fun b0 r => aN r <| bRow 0 true b0 fun (sv : List Int) => So (m_ v sv) fun x => K (vb (x)) [.row 0 sv true]
def sp_slices_Contains_int_int (m_ : Int → (List Int) → Option (Bool)) : Spec := ⟨tr_slices_Contains_int_int m_, (true : Bool)⟩

/-! assart/plist.of -/
def tr_plist_of (m_ : Nat → (List Int) → T_layout_Layout → Int → Int → Int → Option (Int × Int × Int × Int × Int × Int × Int × Int × Int × Int × Int × Int × Int × Int × Int × Int × Int × Int × Int × Int × Int × Int × Int × Int × Bool)) (args : List V) (H : Heap) (K : V → Heap → Prop) : Prop :=
  aC args fun a0 r => aC r fun a1 r => aC r fun a2 r => aC r fun a3 r => aC r fun a4 r => aN r <| aPtr 0 a0 <| aAgg a1 fun c1 => d_layout_Layout c1 fun l2 => aInt a2 fun p => aInt a3 fun c => aInt a4 fun f => aC H fun b0 r => aC r fun b1 r => aN r <| bView 1 b0 fun ws cur xs => bRow 0 true b1 fun (l : List Int) => ws = l ∧ xs.length ≤ 2 ∧ So (m_ (ws.length) cur l2 p c f) fun x => K (.tup [.agg [.ptr 0 0, vi (x.1), vi (x.2.1), vi (x.2.2.1), vi (x.2.2.2.1), vi (x.2.2.2.2.1), vi (x.2.2.2.2.2.1), vi (x.2.2.2.2.2.2.1), vi (x.2.2.2.2.2.2.2.1), vi (x.2.2.2.2.2.2.2.2.1), vi (x.2.2.2.2.2.2.2.2.2.1), vi (x.2.2.2.2.2.2.2.2.2.2.1), vi (x.2.2.2.2.2.2.2.2.2.2.2.1), vi (x.2.2.2.2.2.2.2.2.2.2.2.2.1), vi (x.2.2.2.2.2.2.2.2.2.2.2.2.2.1), vi (x.2.2.2.2.2.2.2.2.2.2.2.2.2.2.1), vi (x.2.2.2.2.2.2.2.2.2.2.2.2.2.2.2.1), vi (x.2.2.2.2.2.2.2.2.2.2.2.2.2.2.2.2.1), vi (x.2.2.2.2.2.2.2.2.2.2.2.2.2.2.2.2.2.1), vi (x.2.2.2.2.2.2.2.2.2.2.2.2.2.2.2.2.2.2.1), vi (x.2.2.2.2.2.2.2.2.2.2.2.2.2.2.2.2.2.2.2.1), vi (x.2.2.2.2.2.2.2.2.2.2.2.2.2.2.2.2.2.2.2.2.1), vi (x.2.2.2.2.2.2.2.2.2.2.2.2.2.2.2.2.2.2.2.2.2.1), vi (x.2.2.2.2.2.2.2.2.2.2.2.2.2.2.2.2.2.2.2.2.2.2.1), vi (x.2.2.2.2.2.2.2.2.2.2.2.2.2.2.2.2.2.2.2.2.2.2.2.1)], vb (x.2.2.2.2.2.2.2.2.2.2.2.2.2.2.2.2.2.2.2.2.2.2.2.2)]) [.pk 0 [ws, cur] xs [.row 1], .row 0 l true]
def sp_plist_of (m_ : Nat → (List Int) → T_layout_Layout → Int → Int → Int → Option (Int × Int × Int × Int × Int × Int × Int × Int × Int × Int × Int × Int × Int × Int × Int × Int × Int × Int × Int × Int × Int × Int × Int × Int × Bool)) : Spec := ⟨tr_plist_of m_, (true : Bool)⟩

/-! (assart/plist.list).pages -/
def tr_plist_list_pages (m_ : Nat → (List Int) → Int → Int → Int → Int → Int → Int → Int → Int → Int → Int → Int → Int → Int → Int → Int → Int → Int → Int → Int → Int → Int → Int → Int → Int → Option ((List Int))) (args : List V) (H : Heap) (K : V → Heap → Prop) : Prop :=
  aC args fun a0 r => aN r <| aAgg a0 fun c0 => aC c0 fun a0_0 r => aPtr 0 a0_0 <| aC r fun a0_1 r => aInt a0_1 fun x_l_c_Workers => aC r fun a0_2 r => aInt a0_2 fun x_l_c_CPUs => aC r fun a0_3 r => aInt a0_3 fun x_l_c_Pages => aC r fun a0_4 r => aInt a0_4 fun x_l_c_Stripes => aC r fun a0_5 r => aInt a0_5 fun x_l_c_Tries => aC r fun a0_6 r => aInt a0_6 fun x_l_c_Wait => aC r fun a0_7 r => aInt a0_7 fun x_l_c_Clock => aC r fun a0_8 r => aInt a0_8 fun x_l_c_Private => aC r fun a0_9 r => aInt a0_9 fun x_l_c_Cache => aC r fun a0_10 r => aInt a0_10 fun x_l_c_Bin => aC r fun a0_11 r => aInt a0_11 fun x_l_c_Batch => aC r fun a0_12 r => aInt a0_12 fun x_l_at_0 => aC r fun a0_13 r => aInt a0_13 fun x_l_at_1 => aC r fun a0_14 r => aInt a0_14 fun x_l_at_2 => aC r fun a0_15 r => aInt a0_15 fun x_l_at_3 => aC r fun a0_16 r => aInt a0_16 fun x_l_at_4 => aC r fun a0_17 r => aInt a0_17 fun x_l_at_5 => aC r fun a0_18 r => aInt a0_18 fun x_l_at_6 => aC r fun a0_19 r => aInt a0_19 fun x_l_at_7 => aC r fun a0_20 r => aInt a0_20 fun x_l_at_8 => aC r fun a0_21 r => aInt a0_21 fun x_l_at_9 => aC r fun a0_22 r => aInt a0_22 fun x_l_at_10 => aC r fun a0_23 r => aInt a0_23 fun x_l_at_11 => aC r fun a0_24 r => aInt a0_24 fun x_head => aN r <| aC H fun b0 r => aC r fun b1 r => aN r <| bView 1 b0 fun ws cur xs => bRow 0 true b1 fun (l : List Int) => ws = l ∧ xs.length ≤ 2 ∧ So (m_ (ws.length) cur x_l_c_Workers x_l_c_CPUs x_l_c_Pages x_l_c_Stripes x_l_c_Tries x_l_c_Wait x_l_c_Clock x_l_c_Private x_l_c_Cache x_l_c_Bin x_l_c_Batch x_l_at_0 x_l_at_1 x_l_at_2 x_l_at_3 x_l_at_4 x_l_at_5 x_l_at_6 x_l_at_7 x_l_at_8 x_l_at_9 x_l_at_10 x_l_at_11 x_head) fun x => K (.row 2) [.pk 0 [ws, cur] xs [.row 1], .row 0 l true, .row 0 (x) false]
def sp_plist_list_pages (m_ : Nat → (List Int) → Int → Int → Int → Int → Int → Int → Int → Int → Int → Int → Int → Int → Int → Int → Int → Int → Int → Int → Int → Int → Int → Int → Int → Int → Option ((List Int))) : Spec := ⟨tr_plist_list_pages m_, (true : Bool)⟩

/-! assart/plist.Link -/
def tr_plist_Link (m_ : Nat → (List Int) → T_layout_Layout → Int → Int → Int → Option (Bool × (List Int))) (args : List V) (H : Heap) (K : V → Heap → Prop) : Prop :=
  aC args fun a0 r => aC r fun a1 r => aC r fun a2 r => aC r fun a3 r => aC r fun a4 r => aN r <| aPtr 0 a0 <| aAgg a1 fun c1 => d_layout_Layout c1 fun l2 => aInt a2 fun p => aInt a3 fun c => aInt a4 fun f => aC H fun b0 r => aC r fun b1 r => aN r <| bView 1 b0 fun ws cur xs => bRow 0 true b1 fun (l : List Int) => ws = l ∧ xs.length ≤ 2 ∧ So (m_ (ws.length) cur l2 p c f) fun x => K (vb (x.1)) [.pk 0 [ws, x.2] xs [.row 1], .row 0 l true]
def sp_plist_Link (m_ : Nat → (List Int) → T_layout_Layout → Int → Int → Int → Option (Bool × (List Int))) : Spec := ⟨tr_plist_Link m_, (true : Bool)⟩

/-! assart/plist.Unlink -/
def tr_plist_Unlink (m_ : Nat → (List Int) → T_layout_Layout → Int → Int → Int → Option (Bool × (List Int))) (args : List V) (H : Heap) (K : V → Heap → Prop) : Prop :=
  aC args fun a0 r => aC r fun a1 r => aC r fun a2 r => aC r fun a3 r => aC r fun a4 r => aN r <| aPtr 0 a0 <| aAgg a1 fun c1 => d_layout_Layout c1 fun l2 => aInt a2 fun p => aInt a3 fun c => aInt a4 fun f => aC H fun b0 r => aC r fun b1 r => aN r <| bView 1 b0 fun ws cur xs => bRow 0 true b1 fun (l : List Int) => ws = l ∧ xs.length ≤ 2 ∧ So (m_ (ws.length) cur l2 p c f) fun x => K (vb (x.1)) [.pk 0 [ws, x.2] xs [.row 1], .row 0 l true]
def sp_plist_Unlink (m_ : Nat → (List Int) → T_layout_Layout → Int → Int → Int → Option (Bool × (List Int))) : Spec := ⟨tr_plist_Unlink m_, (true : Bool)⟩

/-! assart/plist.List -/
def tr_plist_List (m_ : Nat → (List Int) → T_layout_Layout → Int → Int → Option ((List Int))) (args : List V) (H : Heap) (K : V → Heap → Prop) : Prop :=
  aC args fun a0 r => aC r fun a1 r => aC r fun a2 r => aC r fun a3 r => aN r <| aPtr 0 a0 <| aAgg a1 fun c1 => d_layout_Layout c1 fun l2 => aInt a2 fun c => aInt a3 fun f => aC H fun b0 r => aC r fun b1 r => aN r <| bView 1 b0 fun ws cur xs => bRow 0 true b1 fun (l : List Int) => ws = l ∧ xs.length ≤ 2 ∧ So (m_ (ws.length) cur l2 c f) fun x => K (.row 2) [.pk 0 [ws, cur] xs [.row 1], .row 0 l true, .row 0 (x) false]
def sp_plist_List (m_ : Nat → (List Int) → T_layout_Layout → Int → Int → Option ((List Int))) : Spec := ⟨tr_plist_List m_, (true : Bool)⟩

/-! assart/plist.First -/
def tr_plist_First (m_ : Nat → (List Int) → T_layout_Layout → Int → Option (Int)) (args : List V) (H : Heap) (K : V → Heap → Prop) : Prop :=
  aC args fun a0 r => aC r fun a1 r => aC r fun a2 r => aN r <| aPtr 0 a0 <| aAgg a1 fun c1 => d_layout_Layout c1 fun l2 => aInt a2 fun c => aC H fun b0 r => aC r fun b1 r => aN r <| bView 1 b0 fun ws cur xs => bRow 0 true b1 fun (l : List Int) => ws = l ∧ xs.length ≤ 2 ∧ So (m_ (ws.length) cur l2 c) fun x => K (vi (x)) [.pk 0 [ws, cur] xs [.row 1], .row 0 l true]
def sp_plist_First (m_ : Nat → (List Int) → T_layout_Layout → Int → Option (Int)) : Spec := ⟨tr_plist_First m_, (true : Bool)⟩

noncomputable def cfg_class_Size  : Cfg := { cfgB with
  sigs := (sigC 132 (inlS ({ cfgB with sigs := (sigC 158 (inlS cfgB Try.f158) sigN) } : Cfg) Try.f132) sigN) }

noncomputable def cfg_class_Slots (m_class_Size : Int → Option (Int)) : Cfg := { cfgB with
  sigs := (sigC 92 (sp_class_Size m_class_Size) sigN) }

noncomputable def cfg_slices_Index_int_int  : Cfg := { cfgB with
  sigs := sigN,
  keep := fun r => match r with | 2 => some [(0, some 0), (1, none), (7, none), (8, none)] | _ => none }

noncomputable def cfg_slices_Contains_int_int (m_slices_Index_int_int : Int → (List Int) → Option (Int)) : Cfg := { cfgB with
  sigs := (sigC 129 (sp_slices_Index_int_int m_slices_Index_int_int) sigN) }

noncomputable def cfg_plist_of (m_layout_Layout_Head : T_layout_Layout → Int → Int → Option (Int)) (m_layout_Layout_Config : T_layout_Layout → Option (T_api_Config)) : Cfg := { cfgB with
  sigs := (sigC 93 (sp_layout_Layout_Head m_layout_Layout_Head) (sigC 27 (sp_layout_Layout_Config m_layout_Layout_Config) sigN)),
  plan := fun r => match r with | 2 => some (List.range 17, 2064) | _ => none,
  planT := fun r => match r with | 1 => some ((chainT [0, 1, 2, 3, 4] (.alt (chainT [5, 6, 7, 8] .fin) (chainT [7, 5, 6, 8] .fin))), 8208) | _ => none,
  flag := fun d => Nat.beq d 10 || Nat.beq d 12 }

noncomputable def gc_plist_list_pages : Code := match at_ (bodyOf Try.f88) [1] with | .scope c => c | _ => .skip
noncomputable def gr_plist_list_pages : Code := match findLabel gc_plist_list_pages 0 with | some c => c | none => .skip
noncomputable def g_plist_list_pages : Func := { Try.f88 with body := some (.seq (at_ (bodyOf Try.f88) [0]) (goCode 1000 1001 gc_plist_list_pages gr_plist_list_pages)) }
noncomputable def cfg_plist_list_pages (m_layout_Layout_Config : T_layout_Layout → Option (T_api_Config)) (m_layout_Layout_Next : T_layout_Layout → Int → Option (Int)) : Cfg := { cfgB with
  sigs := (sigC 27 (sp_layout_Layout_Config m_layout_Layout_Config) (sigC 90 rdS (sigC 34 (sp_layout_Layout_Next m_layout_Layout_Next) sigN))),
  keep := fun r => match r with | 4 => some [(1, none), (3, some 0), (4, none), (5, none)] | _ => none,
  plan := fun r => match r with | 7 => some (List.range 9, 16) | _ => none }

noncomputable def cfg_plist_Link (m_plist_of : Nat → (List Int) → T_layout_Layout → Int → Int → Int → Option (Int × Int × Int × Int × Int × Int × Int × Int × Int × Int × Int × Int × Int × Int × Int × Int × Int × Int × Int × Int × Int × Int × Int × Int × Bool)) (m_layout_Layout_Next : T_layout_Layout → Int → Option (Int)) (m_layout_Layout_Prev : T_layout_Layout → Int → Option (Int)) : Cfg := { cfgB with
  sigs := (sigC 87 (sp_plist_of m_plist_of) (sigC 90 rdS (sigC 34 (sp_layout_Layout_Next m_layout_Layout_Next) (sigC 91 wrS (sigC 35 (sp_layout_Layout_Prev m_layout_Layout_Prev) sigN))))) }

noncomputable def cfg_plist_Unlink (m_plist_of : Nat → (List Int) → T_layout_Layout → Int → Int → Int → Option (Int × Int × Int × Int × Int × Int × Int × Int × Int × Int × Int × Int × Int × Int × Int × Int × Int × Int × Int × Int × Int × Int × Int × Int × Bool)) (m_plist_list_pages : Nat → (List Int) → Int → Int → Int → Int → Int → Int → Int → Int → Int → Int → Int → Int → Int → Int → Int → Int → Int → Int → Int → Int → Int → Int → Int → Int → Option ((List Int))) (m_slices_Contains_int_int : Int → (List Int) → Option (Bool)) (m_layout_Layout_Prev : T_layout_Layout → Int → Option (Int)) (m_layout_Layout_Next : T_layout_Layout → Int → Option (Int)) : Cfg := { cfgB with
  sigs := (sigC 87 (sp_plist_of m_plist_of) (sigC 88 (sp_plist_list_pages m_plist_list_pages) (sigC 89 (sp_slices_Contains_int_int m_slices_Contains_int_int) (sigC 35 (sp_layout_Layout_Prev m_layout_Layout_Prev) (sigC 90 rdS (sigC 34 (sp_layout_Layout_Next m_layout_Layout_Next) (sigC 91 wrS sigN))))))),
  plan := fun r => match r with | 4 => some ([0, 1, 2, 5, 6, 7, 3, 4, 8, 9, 10, 11], 16) | _ => none }

noncomputable def cfg_plist_List (m_plist_of : Nat → (List Int) → T_layout_Layout → Int → Int → Int → Option (Int × Int × Int × Int × Int × Int × Int × Int × Int × Int × Int × Int × Int × Int × Int × Int × Int × Int × Int × Int × Int × Int × Int × Int × Bool)) (m_plist_list_pages : Nat → (List Int) → Int → Int → Int → Int → Int → Int → Int → Int → Int → Int → Int → Int → Int → Int → Int → Int → Int → Int → Int → Int → Int → Int → Int → Int → Option ((List Int))) : Cfg := { cfgB with
  sigs := (sigC 87 (sp_plist_of m_plist_of) (sigC 88 (sp_plist_list_pages m_plist_list_pages) sigN)) }

noncomputable def cfg_plist_First (m_class_Slots : Int → Option (Int)) (m_layout_Layout_Head : T_layout_Layout → Int → Int → Option (Int)) : Cfg := { cfgB with
  sigs := (sigC 41 (sp_class_Slots m_class_Slots) (sigC 93 (sp_layout_Layout_Head m_layout_Layout_Head) (sigC 90 rdS sigN))),
  keep := fun r => match r with | 2 => some [(0, none), (2, none), (4, none), (7, none)] | _ => none }

theorem nf_class_Size (c : Int) (K : V → Heap → Prop) : (exF cfg_class_Size Try.f92 [vi c] [] K) = (
    br (Decidable.decide (c < 0)) (K (vi (0)) []) (br (Decidable.decide (c ≥ 5)) (K (vi (0)) []) (Req (inR c (Int.toNat 5)) (br (c == (↑0 : Int)) (K (vi (1)) []) (br (c == (↑1 : Int)) (K (vi (2)) []) (br (c == (↑2 : Int)) (K (vi (4)) []) (br (c == (↑3 : Int)) (K (vi (8)) []) (br (c == (↑4 : Int)) (K (vi (16)) []) (True))))))))) := by
  kernel_rfl

theorem nf_class_Slots (m_class_Size : Int → Option (Int)) (c : Int) (K : V → Heap → Prop) : (exF (cfg_class_Slots m_class_Size) Try.f41 [vi c] [] K) = (
    So (m_class_Size c) (fun (y0 : Int) => (br (Decidable.decide (y0 > 0)) (Req (!y0 == 0) (K (vi (IntKind.wrap IntKind.i64 (Int.tdiv 32 y0))) [])) (K (vi (0)) [])))) := by
  kernel_rfl

theorem nf_slices_Index_int_int_L1 (v : Int) (sv : List Int) (t7 : Int) (t8 : Int) (K : V → Heap → Prop) (J1 : Env → Heap → Prop) : (ex cfg_slices_Index_int_int (⟨19, 1⟩ : Cx) (at_ (bodyOf Try.f129) [1, 0, 1, 0, 0]) (mkEnv [(0, .row 0), (1, vi (v)), (7, vi (t7)), (8, vi (t8))]) [.row 0 (sv : List (Int)) Bool.true] (roundK cfg_slices_Index_int_int (⟨19, 1⟩ : Cx) (at_ (bodyOf Try.f129) [1, 0, 1, 0, 0]) (contK cfg_slices_Index_int_int (⟨19, 1⟩ : Cx) (bodyOf Try.f129) [1, 0, 1, 0] (retK cfg_slices_Index_int_int Try.f129 1 K)) J1)) = (
    br (Decidable.decide (t8 < t7)) (Req (inR t8 (List.length sv)) (Req (inR (offs t8 0) (List.length sv)) (br (v == List.getD sv (Int.toNat (offs t8 0)) 0) (K (vi (t8)) [.row 0 (sv : List (Int)) Bool.true]) (J1 (mkEnv [(0, .row 0), (1, vi (v)), (7, vi (t7)), (8, vi (IntKind.wrap IntKind.i64 (t8 + 1)))]) [.row 0 (sv : List (Int)) Bool.true])))) (K (vi (-1)) [.row 0 (sv : List (Int)) Bool.true])) := by
  kernel_rfl

theorem nf_slices_Index_int_int (v : Int) (sv : List Int) (K : V → Heap → Prop) : (exF cfg_slices_Index_int_int Try.f129 [.row 0, vi v] [.row 0 sv true] K) = (
    Loop cfg_slices_Index_int_int (⟨19, 1⟩ : Cx) (at_ (bodyOf Try.f129) [1, 0, 1, 0, 0]) (mkEnv [(0, .row 0), (1, vi (v)), (7, vi ((↑(List.length sv) : Int))), (8, vi (0))]) [.row 0 (sv : List (Int)) Bool.true] (contK cfg_slices_Index_int_int (⟨19, 1⟩ : Cx) (bodyOf Try.f129) [1, 0, 1, 0] (retK cfg_slices_Index_int_int Try.f129 1 K))) := by
  kernel_rfl

theorem nf_slices_Contains_int_int (m_slices_Index_int_int : Int → (List Int) → Option (Int)) (v : Int) (sv : List Int) (K : V → Heap → Prop) : (exF (cfg_slices_Contains_int_int m_slices_Index_int_int) Try.f89 [.row 0, vi v] [.row 0 sv true] K) = (
    So (m_slices_Index_int_int v sv) (fun (y0 : Int) => (K (vb (Decidable.decide (y0 ≥ 0))) [.row 0 (sv : List (Int)) Bool.true]))) := by
  kernel_rfl

theorem nf_plist_of (m_layout_Layout_Head : T_layout_Layout → Int → Int → Option (Int)) (m_layout_Layout_Config : T_layout_Layout → Option (T_api_Config)) (ws : List Int) (cur : List Int) (xs : List Value) (l2 : T_layout_Layout) (p : Int) (c : Int) (f : Int) (K : V → Heap → Prop) : (exF (cfg_plist_of m_layout_Layout_Head m_layout_Layout_Config) Try.f87 [.ptr 0 0, .agg (e_layout_Layout l2), vi p, vi c, vi f] [.pk 0 [ws, cur] xs [.row 1], .row 0 ws true] K) = (
    ((So (m_layout_Layout_Head l2 c f) (fun (y0 : Int) => (br (y0 != 0) (br (Decidable.decide (p ≥ 0)) (So (m_layout_Layout_Config l2) (fun (y1 : T_api_Config) => (K (.tup [.agg ([.ptr 0 0] ++ e_layout_Layout l2 ++ [vi (y0)]), vb (Decidable.decide (p < T_api_Config.Pages y1))]) [.pk 0 [ws, cur] (xs) [.row 1], .row 0 (ws : List (Int)) Bool.true]))) (K (.tup [.agg ([.ptr 0 0] ++ e_layout_Layout l2 ++ [vi (y0)]), vb (Bool.false)]) [.pk 0 [ws, cur] (xs) [.row 1], .row 0 (ws : List (Int)) Bool.true])) (K (.tup [.agg ([.ptr 0 0] ++ e_layout_Layout l2 ++ [vi (y0)]), vb (Bool.false)]) [.pk 0 [ws, cur] (xs) [.row 1], .row 0 (ws : List (Int)) Bool.true])))) ∧ (So (m_layout_Layout_Head l2 c f) (fun (y2 : Int) => (br (y2 != 0) (br (Decidable.decide (p ≥ 0)) (So (m_layout_Layout_Config l2) (fun (y3 : T_api_Config) => (K (.tup [.agg ([.ptr 0 0] ++ e_layout_Layout l2 ++ [vi (y2)]), vb (Decidable.decide (p < T_api_Config.Pages y3))]) [.pk 0 [ws, cur] (xs) [.row 1], .row 0 (ws : List (Int)) Bool.true]))) (K (.tup [.agg ([.ptr 0 0] ++ e_layout_Layout l2 ++ [vi (y2)]), vb (Bool.false)]) [.pk 0 [ws, cur] (xs) [.row 1], .row 0 (ws : List (Int)) Bool.true])) (K (.tup [.agg ([.ptr 0 0] ++ e_layout_Layout l2 ++ [vi (y2)]), vb (Bool.false)]) [.pk 0 [ws, cur] (xs) [.row 1], .row 0 (ws : List (Int)) Bool.true])))))) := by
  kernel_rfl

theorem nf_plist_list_pages_L1 (m_layout_Layout_Config : T_layout_Layout → Option (T_api_Config)) (m_layout_Layout_Next : T_layout_Layout → Int → Option (Int)) (ws : List Int) (cur : List Int) (xs : List Value) (x_l_c_Workers : Int) (x_l_c_CPUs : Int) (x_l_c_Pages : Int) (x_l_c_Stripes : Int) (x_l_c_Tries : Int) (x_l_c_Wait : Int) (x_l_c_Clock : Int) (x_l_c_Private : Int) (x_l_c_Cache : Int) (x_l_c_Bin : Int) (x_l_c_Batch : Int) (x_l_at_0 : Int) (x_l_at_1 : Int) (x_l_at_2 : Int) (x_l_at_3 : Int) (x_l_at_4 : Int) (x_l_at_5 : Int) (x_l_at_6 : Int) (x_l_at_7 : Int) (x_l_at_8 : Int) (x_l_at_9 : Int) (x_l_at_10 : Int) (x_l_at_11 : Int) (x_head : Int) (left : Int) (atv : Int) (w : List Int) (K : V → Heap → Prop) (J1 : Env → Heap → Prop) : (ex (cfg_plist_list_pages m_layout_Layout_Config m_layout_Layout_Next) (⟨37, 2⟩ : Cx) (at_ (bodyOf g_plist_list_pages) [1, 0, 1, 0]) (mkEnv [(1, .ptr 2 0), (3, .row 3), (4, vi (left)), (5, vi (atv))]) [.pk 0 [ws, cur] (xs) [.row 1], .row 0 (ws : List (Int)) Bool.true, .cells 113 [.ptr 0 0, vi (x_l_c_Workers), vi (x_l_c_CPUs), vi (x_l_c_Pages), vi (x_l_c_Stripes), vi (x_l_c_Tries), vi (x_l_c_Wait), vi (x_l_c_Clock), vi (x_l_c_Private), vi (x_l_c_Cache), vi (x_l_c_Bin), vi (x_l_c_Batch), vi (x_l_at_0), vi (x_l_at_1), vi (x_l_at_2), vi (x_l_at_3), vi (x_l_at_4), vi (x_l_at_5), vi (x_l_at_6), vi (x_l_at_7), vi (x_l_at_8), vi (x_l_at_9), vi (x_l_at_10), vi (x_l_at_11), vi (x_head)], .row 0 (w : List (Int)) Bool.false] (roundK (cfg_plist_list_pages m_layout_Layout_Config m_layout_Layout_Next) (⟨37, 2⟩ : Cx) (at_ (bodyOf g_plist_list_pages) [1, 0, 1, 0]) (contK (cfg_plist_list_pages m_layout_Layout_Config m_layout_Layout_Next) (⟨37, 2⟩ : Cx) (bodyOf g_plist_list_pages) [1, 0, 1] (retK (cfg_plist_list_pages m_layout_Layout_Config m_layout_Layout_Next) g_plist_list_pages 2 K)) J1)) = (
    br (Decidable.decide (atv ≤ 0)) (K (.row 2) [.pk 0 [ws, cur] (xs) [.row 1], .row 0 (ws : List (Int)) Bool.true, .row 0 (w : List (Int)) Bool.false]) (br (left == 0) (K (.row 2) [.pk 0 [ws, cur] (xs) [.row 1], .row 0 (ws : List (Int)) Bool.true, .row 0 (w : List (Int)) Bool.false]) (Req (Decidable.decide (List.length w + 1 ≤ 1048576)) (So (m_layout_Layout_Next (T_layout_Layout.mk (T_api_Config.mk x_l_c_Workers x_l_c_CPUs x_l_c_Pages x_l_c_Stripes x_l_c_Tries x_l_c_Wait x_l_c_Clock x_l_c_Private x_l_c_Cache x_l_c_Bin x_l_c_Batch) x_l_at_0 x_l_at_1 x_l_at_2 x_l_at_3 x_l_at_4 x_l_at_5 x_l_at_6 x_l_at_7 x_l_at_8 x_l_at_9 x_l_at_10 x_l_at_11) (IntKind.wrap IntKind.i64 (atv - 1))) (fun (y0 : Int) => (((ws = ws) ∧ (((List.length xs ≤ 2) ∧ (Req (inR y0 (List.length ws)) (J1 (mkEnv [(1, .ptr 2 0), (3, .row 3), (4, vi (IntKind.wrap IntKind.i64 (left - 1))), (5, vi (rd cur y0))]) [.pk 0 [ws, cur] (xs) [.row 1], .row 0 (ws : List (Int)) Bool.true, .cells 113 [.ptr 0 0, vi (x_l_c_Workers), vi (x_l_c_CPUs), vi (x_l_c_Pages), vi (x_l_c_Stripes), vi (x_l_c_Tries), vi (x_l_c_Wait), vi (x_l_c_Clock), vi (x_l_c_Private), vi (x_l_c_Cache), vi (x_l_c_Bin), vi (x_l_c_Batch), vi (x_l_at_0), vi (x_l_at_1), vi (x_l_at_2), vi (x_l_at_3), vi (x_l_at_4), vi (x_l_at_5), vi (x_l_at_6), vi (x_l_at_7), vi (x_l_at_8), vi (x_l_at_9), vi (x_l_at_10), vi (x_l_at_11), vi (x_head)], .row 0 (w ++ [IntKind.wrap IntKind.i64 (atv - 1)] : List (Int)) Bool.false]))))))))))) := by
  kernel_rfl

theorem nf_plist_list_pages (m_layout_Layout_Config : T_layout_Layout → Option (T_api_Config)) (m_layout_Layout_Next : T_layout_Layout → Int → Option (Int)) (ws : List Int) (cur : List Int) (xs : List Value) (x_l_c_Workers : Int) (x_l_c_CPUs : Int) (x_l_c_Pages : Int) (x_l_c_Stripes : Int) (x_l_c_Tries : Int) (x_l_c_Wait : Int) (x_l_c_Clock : Int) (x_l_c_Private : Int) (x_l_c_Cache : Int) (x_l_c_Bin : Int) (x_l_c_Batch : Int) (x_l_at_0 : Int) (x_l_at_1 : Int) (x_l_at_2 : Int) (x_l_at_3 : Int) (x_l_at_4 : Int) (x_l_at_5 : Int) (x_l_at_6 : Int) (x_l_at_7 : Int) (x_l_at_8 : Int) (x_l_at_9 : Int) (x_l_at_10 : Int) (x_l_at_11 : Int) (x_head : Int) (K : V → Heap → Prop) : (exF (cfg_plist_list_pages m_layout_Layout_Config m_layout_Layout_Next) g_plist_list_pages [.agg [.ptr 0 0, vi x_l_c_Workers, vi x_l_c_CPUs, vi x_l_c_Pages, vi x_l_c_Stripes, vi x_l_c_Tries, vi x_l_c_Wait, vi x_l_c_Clock, vi x_l_c_Private, vi x_l_c_Cache, vi x_l_c_Bin, vi x_l_c_Batch, vi x_l_at_0, vi x_l_at_1, vi x_l_at_2, vi x_l_at_3, vi x_l_at_4, vi x_l_at_5, vi x_l_at_6, vi x_l_at_7, vi x_l_at_8, vi x_l_at_9, vi x_l_at_10, vi x_l_at_11, vi x_head]] [.pk 0 [ws, cur] xs [.row 1], .row 0 ws true] K) = (
    So (m_layout_Layout_Config (T_layout_Layout.mk (T_api_Config.mk x_l_c_Workers x_l_c_CPUs x_l_c_Pages x_l_c_Stripes x_l_c_Tries x_l_c_Wait x_l_c_Clock x_l_c_Private x_l_c_Cache x_l_c_Bin x_l_c_Batch) x_l_at_0 x_l_at_1 x_l_at_2 x_l_at_3 x_l_at_4 x_l_at_5 x_l_at_6 x_l_at_7 x_l_at_8 x_l_at_9 x_l_at_10 x_l_at_11)) (fun (y0 : T_api_Config) => (((ws = ws) ∧ (((List.length xs ≤ 2) ∧ (Req (inR x_head (List.length ws)) (br (Decidable.decide (rd cur x_head ≤ 0)) (K (.row 2) [.pk 0 [ws, cur] (xs) [.row 1], .row 0 (ws : List (Int)) Bool.true, .row 0 ([] : List (Int)) Bool.false]) (br (T_api_Config.Pages y0 == 0) (K (.row 2) [.pk 0 [ws, cur] (xs) [.row 1], .row 0 (ws : List (Int)) Bool.true, .row 0 ([] : List (Int)) Bool.false]) (So (m_layout_Layout_Next (T_layout_Layout.mk (T_api_Config.mk x_l_c_Workers x_l_c_CPUs x_l_c_Pages x_l_c_Stripes x_l_c_Tries x_l_c_Wait x_l_c_Clock x_l_c_Private x_l_c_Cache x_l_c_Bin x_l_c_Batch) x_l_at_0 x_l_at_1 x_l_at_2 x_l_at_3 x_l_at_4 x_l_at_5 x_l_at_6 x_l_at_7 x_l_at_8 x_l_at_9 x_l_at_10 x_l_at_11) (IntKind.wrap IntKind.i64 (rd cur x_head - 1))) (fun (y1 : Int) => (((ws = ws) ∧ (((List.length xs ≤ 2) ∧ (Req (inR y1 (List.length ws)) (Loop (cfg_plist_list_pages m_layout_Layout_Config m_layout_Layout_Next) (⟨37, 2⟩ : Cx) (at_ (bodyOf g_plist_list_pages) [1, 0, 1, 0]) (mkEnv [(1, .ptr 2 0), (3, .row 3), (4, vi (IntKind.wrap IntKind.i64 (T_api_Config.Pages y0 - 1))), (5, vi (rd cur y1))]) [.pk 0 [ws, cur] (xs) [.row 1], .row 0 (ws : List (Int)) Bool.true, .cells 113 [.ptr 0 0, vi (x_l_c_Workers), vi (x_l_c_CPUs), vi (x_l_c_Pages), vi (x_l_c_Stripes), vi (x_l_c_Tries), vi (x_l_c_Wait), vi (x_l_c_Clock), vi (x_l_c_Private), vi (x_l_c_Cache), vi (x_l_c_Bin), vi (x_l_c_Batch), vi (x_l_at_0), vi (x_l_at_1), vi (x_l_at_2), vi (x_l_at_3), vi (x_l_at_4), vi (x_l_at_5), vi (x_l_at_6), vi (x_l_at_7), vi (x_l_at_8), vi (x_l_at_9), vi (x_l_at_10), vi (x_l_at_11), vi (x_head)], .row 0 ([IntKind.wrap IntKind.i64 (rd cur x_head - 1)] : List (Int)) Bool.false] (contK (cfg_plist_list_pages m_layout_Layout_Config m_layout_Layout_Next) (⟨37, 2⟩ : Cx) (bodyOf g_plist_list_pages) [1, 0, 1] (retK (cfg_plist_list_pages m_layout_Layout_Config m_layout_Layout_Next) g_plist_list_pages 2 K))))))))))))))))))) := by
  kernel_rfl

theorem nf_plist_Link (m_plist_of : Nat → (List Int) → T_layout_Layout → Int → Int → Int → Option (Int × Int × Int × Int × Int × Int × Int × Int × Int × Int × Int × Int × Int × Int × Int × Int × Int × Int × Int × Int × Int × Int × Int × Int × Bool)) (m_layout_Layout_Next : T_layout_Layout → Int → Option (Int)) (m_layout_Layout_Prev : T_layout_Layout → Int → Option (Int)) (ws : List Int) (cur : List Int) (xs : List Value) (l2 : T_layout_Layout) (p : Int) (c : Int) (f : Int) (K : V → Heap → Prop) : (exF (cfg_plist_Link m_plist_of m_layout_Layout_Next m_layout_Layout_Prev) Try.f40 [.ptr 0 0, .agg (e_layout_Layout l2), vi p, vi c, vi f] [.pk 0 [ws, cur] xs [.row 1], .row 0 ws true] K) = (
    ((ws = ws) ∧ (((List.length xs ≤ 2) ∧ (So (m_plist_of (List.length ws) cur l2 p c f) (fun (y0 : Int × Int × Int × Int × Int × Int × Int × Int × Int × Int × Int × Int × Int × Int × Int × Int × Int × Int × Int × Int × Int × Int × Int × Int × Bool) => (br (!Prod.snd (Prod.snd (Prod.snd (Prod.snd (Prod.snd (Prod.snd (Prod.snd (Prod.snd (Prod.snd (Prod.snd (Prod.snd (Prod.snd (Prod.snd (Prod.snd (Prod.snd (Prod.snd (Prod.snd (Prod.snd (Prod.snd (Prod.snd (Prod.snd (Prod.snd (Prod.snd (Prod.snd y0)))))))))))))))))))))))) (K (vb (Bool.false)) [.pk 0 [ws, cur] (xs) [.row 1], .row 0 (ws : List (Int)) Bool.true]) (((ws = ws) ∧ (((List.length xs ≤ 2) ∧ (Req (inR (Prod.fst (Prod.snd (Prod.snd (Prod.snd (Prod.snd (Prod.snd (Prod.snd (Prod.snd (Prod.snd (Prod.snd (Prod.snd (Prod.snd (Prod.snd (Prod.snd (Prod.snd (Prod.snd (Prod.snd (Prod.snd (Prod.snd (Prod.snd (Prod.snd (Prod.snd (Prod.snd (Prod.snd y0)))))))))))))))))))))))) (List.length ws)) (So (m_layout_Layout_Next l2 p) (fun (y1 : Int) => (((ws = ws) ∧ (((List.length xs ≤ 2) ∧ (Req (inR y1 (List.length ws)) (So (m_layout_Layout_Prev l2 p) (fun (y2 : Int) => (((ws = ws) ∧ (((List.length xs ≤ 2) ∧ (Req (inR y2 (List.length ws)) (br (rd cur (Prod.fst (Prod.snd (Prod.snd (Prod.snd (Prod.snd (Prod.snd (Prod.snd (Prod.snd (Prod.snd (Prod.snd (Prod.snd (Prod.snd (Prod.snd (Prod.snd (Prod.snd (Prod.snd (Prod.snd (Prod.snd (Prod.snd (Prod.snd (Prod.snd (Prod.snd (Prod.snd (Prod.snd y0)))))))))))))))))))))))) != 0) (So (m_layout_Layout_Prev l2 (IntKind.wrap IntKind.i64 (rd cur (Prod.fst (Prod.snd (Prod.snd (Prod.snd (Prod.snd (Prod.snd (Prod.snd (Prod.snd (Prod.snd (Prod.snd (Prod.snd (Prod.snd (Prod.snd (Prod.snd (Prod.snd (Prod.snd (Prod.snd (Prod.snd (Prod.snd (Prod.snd (Prod.snd (Prod.snd (Prod.snd (Prod.snd y0)))))))))))))))))))))))) - 1))) (fun (y3 : Int) => (((ws = ws) ∧ (((List.length xs ≤ 2) ∧ (Req (inR y3 (List.length ws)) (((ws = ws) ∧ (((List.length xs ≤ 2) ∧ (Req (inR (Prod.fst (Prod.snd (Prod.snd (Prod.snd (Prod.snd (Prod.snd (Prod.snd (Prod.snd (Prod.snd (Prod.snd (Prod.snd (Prod.snd (Prod.snd (Prod.snd (Prod.snd (Prod.snd (Prod.snd (Prod.snd (Prod.snd (Prod.snd (Prod.snd (Prod.snd (Prod.snd (Prod.snd y0)))))))))))))))))))))))) (List.length ws)) (K (vb (Bool.true)) [.pk 0 [ws, wr (wr (wr (wr cur y1 (rd cur (Prod.fst (Prod.snd (Prod.snd (Prod.snd (Prod.snd (Prod.snd (Prod.snd (Prod.snd (Prod.snd (Prod.snd (Prod.snd (Prod.snd (Prod.snd (Prod.snd (Prod.snd (Prod.snd (Prod.snd (Prod.snd (Prod.snd (Prod.snd (Prod.snd (Prod.snd (Prod.snd (Prod.snd y0)))))))))))))))))))))))))) y2 0) y3 (IntKind.wrap IntKind.i64 (p + 1))) (Prod.fst (Prod.snd (Prod.snd (Prod.snd (Prod.snd (Prod.snd (Prod.snd (Prod.snd (Prod.snd (Prod.snd (Prod.snd (Prod.snd (Prod.snd (Prod.snd (Prod.snd (Prod.snd (Prod.snd (Prod.snd (Prod.snd (Prod.snd (Prod.snd (Prod.snd (Prod.snd (Prod.snd y0)))))))))))))))))))))))) (IntKind.wrap IntKind.i64 (p + 1))] (xs) [.row 1], .row 0 (ws : List (Int)) Bool.true]))))))))))))) (((ws = ws) ∧ (((List.length xs ≤ 2) ∧ (Req (inR (Prod.fst (Prod.snd (Prod.snd (Prod.snd (Prod.snd (Prod.snd (Prod.snd (Prod.snd (Prod.snd (Prod.snd (Prod.snd (Prod.snd (Prod.snd (Prod.snd (Prod.snd (Prod.snd (Prod.snd (Prod.snd (Prod.snd (Prod.snd (Prod.snd (Prod.snd (Prod.snd (Prod.snd y0)))))))))))))))))))))))) (List.length ws)) (K (vb (Bool.true)) [.pk 0 [ws, wr (wr (wr cur y1 (rd cur (Prod.fst (Prod.snd (Prod.snd (Prod.snd (Prod.snd (Prod.snd (Prod.snd (Prod.snd (Prod.snd (Prod.snd (Prod.snd (Prod.snd (Prod.snd (Prod.snd (Prod.snd (Prod.snd (Prod.snd (Prod.snd (Prod.snd (Prod.snd (Prod.snd (Prod.snd (Prod.snd (Prod.snd y0)))))))))))))))))))))))))) y2 0) (Prod.fst (Prod.snd (Prod.snd (Prod.snd (Prod.snd (Prod.snd (Prod.snd (Prod.snd (Prod.snd (Prod.snd (Prod.snd (Prod.snd (Prod.snd (Prod.snd (Prod.snd (Prod.snd (Prod.snd (Prod.snd (Prod.snd (Prod.snd (Prod.snd (Prod.snd (Prod.snd (Prod.snd y0)))))))))))))))))))))))) (IntKind.wrap IntKind.i64 (p + 1))] (xs) [.row 1], .row 0 (ws : List (Int)) Bool.true]))))))))))))))))))))))))))))))))) := by
  kernel_rfl

theorem nf_plist_Unlink (m_plist_of : Nat → (List Int) → T_layout_Layout → Int → Int → Int → Option (Int × Int × Int × Int × Int × Int × Int × Int × Int × Int × Int × Int × Int × Int × Int × Int × Int × Int × Int × Int × Int × Int × Int × Int × Bool)) (m_plist_list_pages : Nat → (List Int) → Int → Int → Int → Int → Int → Int → Int → Int → Int → Int → Int → Int → Int → Int → Int → Int → Int → Int → Int → Int → Int → Int → Int → Int → Option ((List Int))) (m_slices_Contains_int_int : Int → (List Int) → Option (Bool)) (m_layout_Layout_Prev : T_layout_Layout → Int → Option (Int)) (m_layout_Layout_Next : T_layout_Layout → Int → Option (Int)) (ws : List Int) (cur : List Int) (xs : List Value) (l2 : T_layout_Layout) (p : Int) (c : Int) (f : Int) (K : V → Heap → Prop) : (exF (cfg_plist_Unlink m_plist_of m_plist_list_pages m_slices_Contains_int_int m_layout_Layout_Prev m_layout_Layout_Next) Try.f39 [.ptr 0 0, .agg (e_layout_Layout l2), vi p, vi c, vi f] [.pk 0 [ws, cur] xs [.row 1], .row 0 ws true] K) = (
    ((ws = ws) ∧ (((List.length xs ≤ 2) ∧ (So (m_plist_of (List.length ws) cur l2 p c f) (fun (y0 : Int × Int × Int × Int × Int × Int × Int × Int × Int × Int × Int × Int × Int × Int × Int × Int × Int × Int × Int × Int × Int × Int × Int × Int × Bool) => (br (!Prod.snd (Prod.snd (Prod.snd (Prod.snd (Prod.snd (Prod.snd (Prod.snd (Prod.snd (Prod.snd (Prod.snd (Prod.snd (Prod.snd (Prod.snd (Prod.snd (Prod.snd (Prod.snd (Prod.snd (Prod.snd (Prod.snd (Prod.snd (Prod.snd (Prod.snd (Prod.snd (Prod.snd y0)))))))))))))))))))))))) (K (vb (Bool.false)) [.pk 0 [ws, cur] (xs) [.row 1], .row 0 (ws : List (Int)) Bool.true]) (((ws = ws) ∧ (((List.length xs ≤ 2) ∧ (So (m_plist_list_pages (List.length ws) cur (Prod.fst y0) (Prod.fst (Prod.snd y0)) (Prod.fst (Prod.snd (Prod.snd y0))) (Prod.fst (Prod.snd (Prod.snd (Prod.snd y0)))) (Prod.fst (Prod.snd (Prod.snd (Prod.snd (Prod.snd y0))))) (Prod.fst (Prod.snd (Prod.snd (Prod.snd (Prod.snd (Prod.snd y0)))))) (Prod.fst (Prod.snd (Prod.snd (Prod.snd (Prod.snd (Prod.snd (Prod.snd y0))))))) (Prod.fst (Prod.snd (Prod.snd (Prod.snd (Prod.snd (Prod.snd (Prod.snd (Prod.snd y0)))))))) (Prod.fst (Prod.snd (Prod.snd (Prod.snd (Prod.snd (Prod.snd (Prod.snd (Prod.snd (Prod.snd y0))))))))) (Prod.fst (Prod.snd (Prod.snd (Prod.snd (Prod.snd (Prod.snd (Prod.snd (Prod.snd (Prod.snd (Prod.snd y0)))))))))) (Prod.fst (Prod.snd (Prod.snd (Prod.snd (Prod.snd (Prod.snd (Prod.snd (Prod.snd (Prod.snd (Prod.snd (Prod.snd y0))))))))))) (Prod.fst (Prod.snd (Prod.snd (Prod.snd (Prod.snd (Prod.snd (Prod.snd (Prod.snd (Prod.snd (Prod.snd (Prod.snd (Prod.snd y0)))))))))))) (Prod.fst (Prod.snd (Prod.snd (Prod.snd (Prod.snd (Prod.snd (Prod.snd (Prod.snd (Prod.snd (Prod.snd (Prod.snd (Prod.snd (Prod.snd y0))))))))))))) (Prod.fst (Prod.snd (Prod.snd (Prod.snd (Prod.snd (Prod.snd (Prod.snd (Prod.snd (Prod.snd (Prod.snd (Prod.snd (Prod.snd (Prod.snd (Prod.snd y0)))))))))))))) (Prod.fst (Prod.snd (Prod.snd (Prod.snd (Prod.snd (Prod.snd (Prod.snd (Prod.snd (Prod.snd (Prod.snd (Prod.snd (Prod.snd (Prod.snd (Prod.snd (Prod.snd y0))))))))))))))) (Prod.fst (Prod.snd (Prod.snd (Prod.snd (Prod.snd (Prod.snd (Prod.snd (Prod.snd (Prod.snd (Prod.snd (Prod.snd (Prod.snd (Prod.snd (Prod.snd (Prod.snd (Prod.snd y0)))))))))))))))) (Prod.fst (Prod.snd (Prod.snd (Prod.snd (Prod.snd (Prod.snd (Prod.snd (Prod.snd (Prod.snd (Prod.snd (Prod.snd (Prod.snd (Prod.snd (Prod.snd (Prod.snd (Prod.snd (Prod.snd y0))))))))))))))))) (Prod.fst (Prod.snd (Prod.snd (Prod.snd (Prod.snd (Prod.snd (Prod.snd (Prod.snd (Prod.snd (Prod.snd (Prod.snd (Prod.snd (Prod.snd (Prod.snd (Prod.snd (Prod.snd (Prod.snd (Prod.snd y0)))))))))))))))))) (Prod.fst (Prod.snd (Prod.snd (Prod.snd (Prod.snd (Prod.snd (Prod.snd (Prod.snd (Prod.snd (Prod.snd (Prod.snd (Prod.snd (Prod.snd (Prod.snd (Prod.snd (Prod.snd (Prod.snd (Prod.snd (Prod.snd y0))))))))))))))))))) (Prod.fst (Prod.snd (Prod.snd (Prod.snd (Prod.snd (Prod.snd (Prod.snd (Prod.snd (Prod.snd (Prod.snd (Prod.snd (Prod.snd (Prod.snd (Prod.snd (Prod.snd (Prod.snd (Prod.snd (Prod.snd (Prod.snd (Prod.snd y0)))))))))))))))))))) (Prod.fst (Prod.snd (Prod.snd (Prod.snd (Prod.snd (Prod.snd (Prod.snd (Prod.snd (Prod.snd (Prod.snd (Prod.snd (Prod.snd (Prod.snd (Prod.snd (Prod.snd (Prod.snd (Prod.snd (Prod.snd (Prod.snd (Prod.snd (Prod.snd y0))))))))))))))))))))) (Prod.fst (Prod.snd (Prod.snd (Prod.snd (Prod.snd (Prod.snd (Prod.snd (Prod.snd (Prod.snd (Prod.snd (Prod.snd (Prod.snd (Prod.snd (Prod.snd (Prod.snd (Prod.snd (Prod.snd (Prod.snd (Prod.snd (Prod.snd (Prod.snd (Prod.snd y0)))))))))))))))))))))) (Prod.fst (Prod.snd (Prod.snd (Prod.snd (Prod.snd (Prod.snd (Prod.snd (Prod.snd (Prod.snd (Prod.snd (Prod.snd (Prod.snd (Prod.snd (Prod.snd (Prod.snd (Prod.snd (Prod.snd (Prod.snd (Prod.snd (Prod.snd (Prod.snd (Prod.snd (Prod.snd y0))))))))))))))))))))))) (Prod.fst (Prod.snd (Prod.snd (Prod.snd (Prod.snd (Prod.snd (Prod.snd (Prod.snd (Prod.snd (Prod.snd (Prod.snd (Prod.snd (Prod.snd (Prod.snd (Prod.snd (Prod.snd (Prod.snd (Prod.snd (Prod.snd (Prod.snd (Prod.snd (Prod.snd (Prod.snd (Prod.snd y0))))))))))))))))))))))))) (fun (y1 : List Int) => (So (m_slices_Contains_int_int p y1) (fun (y2 : Bool) => (br (!y2) (K (vb (Bool.false)) [.pk 0 [ws, cur] (xs) [.row 1], .row 0 (ws : List (Int)) Bool.true]) (So (m_layout_Layout_Prev l2 p) (fun (y3 : Int) => (((ws = ws) ∧ (((List.length xs ≤ 2) ∧ (Req (inR y3 (List.length ws)) (So (m_layout_Layout_Next l2 p) (fun (y4 : Int) => (((ws = ws) ∧ (((List.length xs ≤ 2) ∧ (Req (inR y4 (List.length ws)) (br (rd cur y3 == 0) (((ws = ws) ∧ (((List.length xs ≤ 2) ∧ (Req (inR (Prod.fst (Prod.snd (Prod.snd (Prod.snd (Prod.snd (Prod.snd (Prod.snd (Prod.snd (Prod.snd (Prod.snd (Prod.snd (Prod.snd (Prod.snd (Prod.snd (Prod.snd (Prod.snd (Prod.snd (Prod.snd (Prod.snd (Prod.snd (Prod.snd (Prod.snd (Prod.snd (Prod.snd y0)))))))))))))))))))))))) (List.length ws)) (br (rd cur y4 != 0) (So (m_layout_Layout_Prev l2 (IntKind.wrap IntKind.i64 (rd cur y4 - 1))) (fun (y5 : Int) => (((ws = ws) ∧ (((List.length xs ≤ 2) ∧ (Req (inR y5 (List.length ws)) (So (m_layout_Layout_Next l2 p) (fun (y6 : Int) => (((ws = ws) ∧ (((List.length xs ≤ 2) ∧ (Req (inR y6 (List.length ws)) (So (m_layout_Layout_Prev l2 p) (fun (y7 : Int) => (((ws = ws) ∧ (((List.length xs ≤ 2) ∧ (Req (inR y7 (List.length ws)) (K (vb (Bool.true)) [.pk 0 [ws, wr (wr (wr (wr cur (Prod.fst (Prod.snd (Prod.snd (Prod.snd (Prod.snd (Prod.snd (Prod.snd (Prod.snd (Prod.snd (Prod.snd (Prod.snd (Prod.snd (Prod.snd (Prod.snd (Prod.snd (Prod.snd (Prod.snd (Prod.snd (Prod.snd (Prod.snd (Prod.snd (Prod.snd (Prod.snd (Prod.snd y0)))))))))))))))))))))))) (rd cur y4)) y5 (rd cur y3)) y6 0) y7 0] (xs) [.row 1], .row 0 (ws : List (Int)) Bool.true])))))))))))))))))))))) (So (m_layout_Layout_Next l2 p) (fun (y8 : Int) => (((ws = ws) ∧ (((List.length xs ≤ 2) ∧ (Req (inR y8 (List.length ws)) (So (m_layout_Layout_Prev l2 p) (fun (y9 : Int) => (((ws = ws) ∧ (((List.length xs ≤ 2) ∧ (Req (inR y9 (List.length ws)) (K (vb (Bool.true)) [.pk 0 [ws, wr (wr (wr cur (Prod.fst (Prod.snd (Prod.snd (Prod.snd (Prod.snd (Prod.snd (Prod.snd (Prod.snd (Prod.snd (Prod.snd (Prod.snd (Prod.snd (Prod.snd (Prod.snd (Prod.snd (Prod.snd (Prod.snd (Prod.snd (Prod.snd (Prod.snd (Prod.snd (Prod.snd (Prod.snd (Prod.snd y0)))))))))))))))))))))))) (rd cur y4)) y8 0) y9 0] (xs) [.row 1], .row 0 (ws : List (Int)) Bool.true]))))))))))))))))))))) (So (m_layout_Layout_Next l2 (IntKind.wrap IntKind.i64 (rd cur y3 - 1))) (fun (y10 : Int) => (((ws = ws) ∧ (((List.length xs ≤ 2) ∧ (Req (inR y10 (List.length ws)) (br (rd cur y4 != 0) (So (m_layout_Layout_Prev l2 (IntKind.wrap IntKind.i64 (rd cur y4 - 1))) (fun (y11 : Int) => (((ws = ws) ∧ (((List.length xs ≤ 2) ∧ (Req (inR y11 (List.length ws)) (So (m_layout_Layout_Next l2 p) (fun (y12 : Int) => (((ws = ws) ∧ (((List.length xs ≤ 2) ∧ (Req (inR y12 (List.length ws)) (So (m_layout_Layout_Prev l2 p) (fun (y13 : Int) => (((ws = ws) ∧ (((List.length xs ≤ 2) ∧ (Req (inR y13 (List.length ws)) (K (vb (Bool.true)) [.pk 0 [ws, wr (wr (wr (wr cur y10 (rd cur y4)) y11 (rd cur y3)) y12 0) y13 0] (xs) [.row 1], .row 0 (ws : List (Int)) Bool.true])))))))))))))))))))))) (So (m_layout_Layout_Next l2 p) (fun (y14 : Int) => (((ws = ws) ∧ (((List.length xs ≤ 2) ∧ (Req (inR y14 (List.length ws)) (So (m_layout_Layout_Prev l2 p) (fun (y15 : Int) => (((ws = ws) ∧ (((List.length xs ≤ 2) ∧ (Req (inR y15 (List.length ws)) (K (vb (Bool.true)) [.pk 0 [ws, wr (wr (wr cur y10 (rd cur y4)) y14 0) y15 0] (xs) [.row 1], .row 0 (ws : List (Int)) Bool.true])))))))))))))))))))))))))))))))))))))))))))))))))))))) := by
  kernel_rfl

theorem nf_plist_List (m_plist_of : Nat → (List Int) → T_layout_Layout → Int → Int → Int → Option (Int × Int × Int × Int × Int × Int × Int × Int × Int × Int × Int × Int × Int × Int × Int × Int × Int × Int × Int × Int × Int × Int × Int × Int × Bool)) (m_plist_list_pages : Nat → (List Int) → Int → Int → Int → Int → Int → Int → Int → Int → Int → Int → Int → Int → Int → Int → Int → Int → Int → Int → Int → Int → Int → Int → Int → Int → Option ((List Int))) (ws : List Int) (cur : List Int) (xs : List Value) (l2 : T_layout_Layout) (c : Int) (f : Int) (K : V → Heap → Prop) : (exF (cfg_plist_List m_plist_of m_plist_list_pages) Try.f37 [.ptr 0 0, .agg (e_layout_Layout l2), vi c, vi f] [.pk 0 [ws, cur] xs [.row 1], .row 0 ws true] K) = (
    ((ws = ws) ∧ (((List.length xs ≤ 2) ∧ (So (m_plist_of (List.length ws) cur l2 0 c f) (fun (y0 : Int × Int × Int × Int × Int × Int × Int × Int × Int × Int × Int × Int × Int × Int × Int × Int × Int × Int × Int × Int × Int × Int × Int × Int × Bool) => (br (!Prod.snd (Prod.snd (Prod.snd (Prod.snd (Prod.snd (Prod.snd (Prod.snd (Prod.snd (Prod.snd (Prod.snd (Prod.snd (Prod.snd (Prod.snd (Prod.snd (Prod.snd (Prod.snd (Prod.snd (Prod.snd (Prod.snd (Prod.snd (Prod.snd (Prod.snd (Prod.snd (Prod.snd y0)))))))))))))))))))))))) (K (.row 2) [.pk 0 [ws, cur] (xs) [.row 1], .row 0 (ws : List (Int)) Bool.true, .row 0 ([] : List (Int)) Bool.false]) (((ws = ws) ∧ (((List.length xs ≤ 2) ∧ (So (m_plist_list_pages (List.length ws) cur (Prod.fst y0) (Prod.fst (Prod.snd y0)) (Prod.fst (Prod.snd (Prod.snd y0))) (Prod.fst (Prod.snd (Prod.snd (Prod.snd y0)))) (Prod.fst (Prod.snd (Prod.snd (Prod.snd (Prod.snd y0))))) (Prod.fst (Prod.snd (Prod.snd (Prod.snd (Prod.snd (Prod.snd y0)))))) (Prod.fst (Prod.snd (Prod.snd (Prod.snd (Prod.snd (Prod.snd (Prod.snd y0))))))) (Prod.fst (Prod.snd (Prod.snd (Prod.snd (Prod.snd (Prod.snd (Prod.snd (Prod.snd y0)))))))) (Prod.fst (Prod.snd (Prod.snd (Prod.snd (Prod.snd (Prod.snd (Prod.snd (Prod.snd (Prod.snd y0))))))))) (Prod.fst (Prod.snd (Prod.snd (Prod.snd (Prod.snd (Prod.snd (Prod.snd (Prod.snd (Prod.snd (Prod.snd y0)))))))))) (Prod.fst (Prod.snd (Prod.snd (Prod.snd (Prod.snd (Prod.snd (Prod.snd (Prod.snd (Prod.snd (Prod.snd (Prod.snd y0))))))))))) (Prod.fst (Prod.snd (Prod.snd (Prod.snd (Prod.snd (Prod.snd (Prod.snd (Prod.snd (Prod.snd (Prod.snd (Prod.snd (Prod.snd y0)))))))))))) (Prod.fst (Prod.snd (Prod.snd (Prod.snd (Prod.snd (Prod.snd (Prod.snd (Prod.snd (Prod.snd (Prod.snd (Prod.snd (Prod.snd (Prod.snd y0))))))))))))) (Prod.fst (Prod.snd (Prod.snd (Prod.snd (Prod.snd (Prod.snd (Prod.snd (Prod.snd (Prod.snd (Prod.snd (Prod.snd (Prod.snd (Prod.snd (Prod.snd y0)))))))))))))) (Prod.fst (Prod.snd (Prod.snd (Prod.snd (Prod.snd (Prod.snd (Prod.snd (Prod.snd (Prod.snd (Prod.snd (Prod.snd (Prod.snd (Prod.snd (Prod.snd (Prod.snd y0))))))))))))))) (Prod.fst (Prod.snd (Prod.snd (Prod.snd (Prod.snd (Prod.snd (Prod.snd (Prod.snd (Prod.snd (Prod.snd (Prod.snd (Prod.snd (Prod.snd (Prod.snd (Prod.snd (Prod.snd y0)))))))))))))))) (Prod.fst (Prod.snd (Prod.snd (Prod.snd (Prod.snd (Prod.snd (Prod.snd (Prod.snd (Prod.snd (Prod.snd (Prod.snd (Prod.snd (Prod.snd (Prod.snd (Prod.snd (Prod.snd (Prod.snd y0))))))))))))))))) (Prod.fst (Prod.snd (Prod.snd (Prod.snd (Prod.snd (Prod.snd (Prod.snd (Prod.snd (Prod.snd (Prod.snd (Prod.snd (Prod.snd (Prod.snd (Prod.snd (Prod.snd (Prod.snd (Prod.snd (Prod.snd y0)))))))))))))))))) (Prod.fst (Prod.snd (Prod.snd (Prod.snd (Prod.snd (Prod.snd (Prod.snd (Prod.snd (Prod.snd (Prod.snd (Prod.snd (Prod.snd (Prod.snd (Prod.snd (Prod.snd (Prod.snd (Prod.snd (Prod.snd (Prod.snd y0))))))))))))))))))) (Prod.fst (Prod.snd (Prod.snd (Prod.snd (Prod.snd (Prod.snd (Prod.snd (Prod.snd (Prod.snd (Prod.snd (Prod.snd (Prod.snd (Prod.snd (Prod.snd (Prod.snd (Prod.snd (Prod.snd (Prod.snd (Prod.snd (Prod.snd y0)))))))))))))))))))) (Prod.fst (Prod.snd (Prod.snd (Prod.snd (Prod.snd (Prod.snd (Prod.snd (Prod.snd (Prod.snd (Prod.snd (Prod.snd (Prod.snd (Prod.snd (Prod.snd (Prod.snd (Prod.snd (Prod.snd (Prod.snd (Prod.snd (Prod.snd (Prod.snd y0))))))))))))))))))))) (Prod.fst (Prod.snd (Prod.snd (Prod.snd (Prod.snd (Prod.snd (Prod.snd (Prod.snd (Prod.snd (Prod.snd (Prod.snd (Prod.snd (Prod.snd (Prod.snd (Prod.snd (Prod.snd (Prod.snd (Prod.snd (Prod.snd (Prod.snd (Prod.snd (Prod.snd y0)))))))))))))))))))))) (Prod.fst (Prod.snd (Prod.snd (Prod.snd (Prod.snd (Prod.snd (Prod.snd (Prod.snd (Prod.snd (Prod.snd (Prod.snd (Prod.snd (Prod.snd (Prod.snd (Prod.snd (Prod.snd (Prod.snd (Prod.snd (Prod.snd (Prod.snd (Prod.snd (Prod.snd (Prod.snd y0))))))))))))))))))))))) (Prod.fst (Prod.snd (Prod.snd (Prod.snd (Prod.snd (Prod.snd (Prod.snd (Prod.snd (Prod.snd (Prod.snd (Prod.snd (Prod.snd (Prod.snd (Prod.snd (Prod.snd (Prod.snd (Prod.snd (Prod.snd (Prod.snd (Prod.snd (Prod.snd (Prod.snd (Prod.snd (Prod.snd y0))))))))))))))))))))))))) (fun (y1 : List Int) => (K (.row 2) [.pk 0 [ws, cur] (xs) [.row 1], .row 0 (ws : List (Int)) Bool.true, .row 0 (y1 : List (Int)) Bool.false])))))))))))))) := by
  kernel_rfl

theorem nf_plist_First_L1 (m_class_Slots : Int → Option (Int)) (m_layout_Layout_Head : T_layout_Layout → Int → Int → Option (Int)) (ws : List Int) (cur : List Int) (xs : List Value) (l2 : T_layout_Layout) (c : Int) (f : Int) (K : V → Heap → Prop) (J1 : Env → Heap → Prop) : (ex (cfg_plist_First m_class_Slots m_layout_Layout_Head) (⟨25, 2⟩ : Cx) (at_ (bodyOf Try.f45) [1, 0, 1, 0, 0]) (mkEnv [(0, .ptr 0 0), (2, vi (c)), (4, .ptr 2 0), (7, vi (f))]) [.pk 0 [ws, cur] (xs) [.row 1], .row 0 (ws : List (Int)) Bool.true, .cells 28 (e_layout_Layout l2)] (roundK (cfg_plist_First m_class_Slots m_layout_Layout_Head) (⟨25, 2⟩ : Cx) (at_ (bodyOf Try.f45) [1, 0, 1, 0, 0]) (contK (cfg_plist_First m_class_Slots m_layout_Layout_Head) (⟨25, 2⟩ : Cx) (bodyOf Try.f45) [1, 0, 1, 0] (retK (cfg_plist_First m_class_Slots m_layout_Layout_Head) Try.f45 2 K)) J1)) = (
    So (m_class_Slots c) (fun (y0 : Int) => (br (Decidable.decide (f ≤ y0)) (So (m_layout_Layout_Head l2 c f) (fun (y1 : Int) => (((ws = ws) ∧ (((List.length xs ≤ 2) ∧ (Req (inR y1 (List.length ws)) (br (Decidable.decide (rd cur y1 > 0)) (K (vi (IntKind.wrap IntKind.i64 (rd cur y1 - 1))) [.pk 0 [ws, cur] (xs) [.row 1], .row 0 (ws : List (Int)) Bool.true]) (J1 (mkEnv [(0, .ptr 0 0), (2, vi (c)), (4, .ptr 2 0), (7, vi (IntKind.wrap IntKind.i64 (f + 1)))]) [.pk 0 [ws, cur] (xs) [.row 1], .row 0 (ws : List (Int)) Bool.true, .cells 28 (e_layout_Layout l2)]))))))))) (K (vi (-1)) [.pk 0 [ws, cur] (xs) [.row 1], .row 0 (ws : List (Int)) Bool.true])))) := by
  kernel_rfl

theorem nf_plist_First (m_class_Slots : Int → Option (Int)) (m_layout_Layout_Head : T_layout_Layout → Int → Int → Option (Int)) (ws : List Int) (cur : List Int) (xs : List Value) (l2 : T_layout_Layout) (c : Int) (K : V → Heap → Prop) : (exF (cfg_plist_First m_class_Slots m_layout_Layout_Head) Try.f45 [.ptr 0 0, .agg (e_layout_Layout l2), vi c] [.pk 0 [ws, cur] xs [.row 1], .row 0 ws true] K) = (
    Loop (cfg_plist_First m_class_Slots m_layout_Layout_Head) (⟨25, 2⟩ : Cx) (at_ (bodyOf Try.f45) [1, 0, 1, 0, 0]) (mkEnv [(0, .ptr 0 0), (2, vi (c)), (4, .ptr 2 0), (7, vi (1))]) [.pk 0 [ws, cur] (xs) [.row 1], .row 0 (ws : List (Int)) Bool.true, .cells 28 (e_layout_Layout l2)] (contK (cfg_plist_First m_class_Slots m_layout_Layout_Head) (⟨25, 2⟩ : Cx) (bodyOf Try.f45) [1, 0, 1, 0] (retK (cfg_plist_First m_class_Slots m_layout_Layout_Head) Try.f45 2 K))) := by
  kernel_rfl

noncomputable def m_class_Size (c : Int) : Option (Int) :=
  (bif (Decidable.decide (c < 0)) then some ((0)) else (bif (Decidable.decide (c ≥ 5)) then some ((0)) else (bif (inR c (Int.toNat 5)) then (bif (c == (↑0 : Int)) then some ((1)) else (bif (c == (↑1 : Int)) then some ((2)) else (bif (c == (↑2 : Int)) then some ((4)) else (bif (c == (↑3 : Int)) then some ((8)) else (bif (c == (↑4 : Int)) then some ((16)) else none))))) else none)))

noncomputable def m_class_Slots (c : Int) : Option (Int) :=
  ((m_class_Size c).bind fun y0 => (bif (Decidable.decide (y0 > 0)) then (bif (!y0 == 0) then some ((IntKind.wrap IntKind.i64 (Int.tdiv 32 y0))) else none) else some ((0))))

noncomputable def sb_slices_Index_int_int_L1 (v : Int) (sv : List Int) (t7 : Int) (t8 : Int) : Option ((Int) ⊕ (Int)) :=
  (bif (Decidable.decide (t8 < t7)) then (bif (inR t8 (List.length sv)) then (bif (inR (offs t8 0) (List.length sv)) then (bif (v == List.getD sv (Int.toNat (offs t8 0)) 0) then some (.inr ((t8))) else some (.inl (IntKind.wrap IntKind.i64 (t8 + 1)))) else none) else none) else some (.inr ((-1))))

noncomputable def lp_slices_Index_int_int_L1 (v : Int) (sv : List Int) (t7 : Int) (s : Int) : Option (Int) :=
  loopO (fun s => sb_slices_Index_int_int_L1 v sv t7 s) s

noncomputable def m_slices_Index_int_int (v : Int) (sv : List Int) : Option (Int) :=
  (lp_slices_Index_int_int_L1 v sv ((↑(List.length sv) : Int)) (0))

noncomputable def m_slices_Contains_int_int (v : Int) (sv : List Int) : Option (Bool) :=
  ((m_slices_Index_int_int v sv).bind fun y0 => some ((Decidable.decide (y0 ≥ 0))))

noncomputable def m_plist_of (nw : Nat) (cur : List Int) (l2 : T_layout_Layout) (p : Int) (c : Int) (f : Int) : Option (Int × Int × Int × Int × Int × Int × Int × Int × Int × Int × Int × Int × Int × Int × Int × Int × Int × Int × Int × Int × Int × Int × Int × Int × Bool) :=
  ((m_layout_Layout_Head l2 c f).bind fun y2 => (bif (y2 != 0) then (bif (Decidable.decide (p ≥ 0)) then ((m_layout_Layout_Config l2).bind fun y3 => some (((T_api_Config.Workers (T_layout_Layout.c l2)), (T_api_Config.CPUs (T_layout_Layout.c l2)), (T_api_Config.Pages (T_layout_Layout.c l2)), (T_api_Config.Stripes (T_layout_Layout.c l2)), (T_api_Config.Tries (T_layout_Layout.c l2)), (T_api_Config.Wait (T_layout_Layout.c l2)), (T_api_Config.Clock (T_layout_Layout.c l2)), (T_api_Config.Private (T_layout_Layout.c l2)), (T_api_Config.Cache (T_layout_Layout.c l2)), (T_api_Config.Bin (T_layout_Layout.c l2)), (T_api_Config.Batch (T_layout_Layout.c l2)), (T_layout_Layout.at_0 l2), (T_layout_Layout.at_1 l2), (T_layout_Layout.at_2 l2), (T_layout_Layout.at_3 l2), (T_layout_Layout.at_4 l2), (T_layout_Layout.at_5 l2), (T_layout_Layout.at_6 l2), (T_layout_Layout.at_7 l2), (T_layout_Layout.at_8 l2), (T_layout_Layout.at_9 l2), (T_layout_Layout.at_10 l2), (T_layout_Layout.at_11 l2), (y2), (Decidable.decide (p < T_api_Config.Pages y3))))) else some (((T_api_Config.Workers (T_layout_Layout.c l2)), (T_api_Config.CPUs (T_layout_Layout.c l2)), (T_api_Config.Pages (T_layout_Layout.c l2)), (T_api_Config.Stripes (T_layout_Layout.c l2)), (T_api_Config.Tries (T_layout_Layout.c l2)), (T_api_Config.Wait (T_layout_Layout.c l2)), (T_api_Config.Clock (T_layout_Layout.c l2)), (T_api_Config.Private (T_layout_Layout.c l2)), (T_api_Config.Cache (T_layout_Layout.c l2)), (T_api_Config.Bin (T_layout_Layout.c l2)), (T_api_Config.Batch (T_layout_Layout.c l2)), (T_layout_Layout.at_0 l2), (T_layout_Layout.at_1 l2), (T_layout_Layout.at_2 l2), (T_layout_Layout.at_3 l2), (T_layout_Layout.at_4 l2), (T_layout_Layout.at_5 l2), (T_layout_Layout.at_6 l2), (T_layout_Layout.at_7 l2), (T_layout_Layout.at_8 l2), (T_layout_Layout.at_9 l2), (T_layout_Layout.at_10 l2), (T_layout_Layout.at_11 l2), (y2), (Bool.false)))) else some (((T_api_Config.Workers (T_layout_Layout.c l2)), (T_api_Config.CPUs (T_layout_Layout.c l2)), (T_api_Config.Pages (T_layout_Layout.c l2)), (T_api_Config.Stripes (T_layout_Layout.c l2)), (T_api_Config.Tries (T_layout_Layout.c l2)), (T_api_Config.Wait (T_layout_Layout.c l2)), (T_api_Config.Clock (T_layout_Layout.c l2)), (T_api_Config.Private (T_layout_Layout.c l2)), (T_api_Config.Cache (T_layout_Layout.c l2)), (T_api_Config.Bin (T_layout_Layout.c l2)), (T_api_Config.Batch (T_layout_Layout.c l2)), (T_layout_Layout.at_0 l2), (T_layout_Layout.at_1 l2), (T_layout_Layout.at_2 l2), (T_layout_Layout.at_3 l2), (T_layout_Layout.at_4 l2), (T_layout_Layout.at_5 l2), (T_layout_Layout.at_6 l2), (T_layout_Layout.at_7 l2), (T_layout_Layout.at_8 l2), (T_layout_Layout.at_9 l2), (T_layout_Layout.at_10 l2), (T_layout_Layout.at_11 l2), (y2), (Bool.false)))))

noncomputable def sb_plist_list_pages_L1 (nw : Nat) (cur : List Int) (x_l_c_Workers : Int) (x_l_c_CPUs : Int) (x_l_c_Pages : Int) (x_l_c_Stripes : Int) (x_l_c_Tries : Int) (x_l_c_Wait : Int) (x_l_c_Clock : Int) (x_l_c_Private : Int) (x_l_c_Cache : Int) (x_l_c_Bin : Int) (x_l_c_Batch : Int) (x_l_at_0 : Int) (x_l_at_1 : Int) (x_l_at_2 : Int) (x_l_at_3 : Int) (x_l_at_4 : Int) (x_l_at_5 : Int) (x_l_at_6 : Int) (x_l_at_7 : Int) (x_l_at_8 : Int) (x_l_at_9 : Int) (x_l_at_10 : Int) (x_l_at_11 : Int) (left : Int) (atv : Int) (w : List Int) : Option ((Int × Int × (List Int)) ⊕ ((List Int))) :=
  (bif (Decidable.decide (atv ≤ 0)) then some (.inr ((w))) else (bif (left == 0) then some (.inr ((w))) else (bif (Decidable.decide (List.length w + 1 ≤ 1048576)) then ((m_layout_Layout_Next (T_layout_Layout.mk (T_api_Config.mk x_l_c_Workers x_l_c_CPUs x_l_c_Pages x_l_c_Stripes x_l_c_Tries x_l_c_Wait x_l_c_Clock x_l_c_Private x_l_c_Cache x_l_c_Bin x_l_c_Batch) x_l_at_0 x_l_at_1 x_l_at_2 x_l_at_3 x_l_at_4 x_l_at_5 x_l_at_6 x_l_at_7 x_l_at_8 x_l_at_9 x_l_at_10 x_l_at_11) (IntKind.wrap IntKind.i64 (atv - 1))).bind fun y0 => (bif (inR y0 nw) then some (.inl ((IntKind.wrap IntKind.i64 (left - 1)), (rd cur y0), (w ++ [IntKind.wrap IntKind.i64 (atv - 1)]))) else none)) else none)))

noncomputable def lp_plist_list_pages_L1 (nw : Nat) (cur : List Int) (x_l_c_Workers : Int) (x_l_c_CPUs : Int) (x_l_c_Pages : Int) (x_l_c_Stripes : Int) (x_l_c_Tries : Int) (x_l_c_Wait : Int) (x_l_c_Clock : Int) (x_l_c_Private : Int) (x_l_c_Cache : Int) (x_l_c_Bin : Int) (x_l_c_Batch : Int) (x_l_at_0 : Int) (x_l_at_1 : Int) (x_l_at_2 : Int) (x_l_at_3 : Int) (x_l_at_4 : Int) (x_l_at_5 : Int) (x_l_at_6 : Int) (x_l_at_7 : Int) (x_l_at_8 : Int) (x_l_at_9 : Int) (x_l_at_10 : Int) (x_l_at_11 : Int) (s : Int × Int × (List Int)) : Option ((List Int)) :=
  loopO (fun s => sb_plist_list_pages_L1 nw cur x_l_c_Workers x_l_c_CPUs x_l_c_Pages x_l_c_Stripes x_l_c_Tries x_l_c_Wait x_l_c_Clock x_l_c_Private x_l_c_Cache x_l_c_Bin x_l_c_Batch x_l_at_0 x_l_at_1 x_l_at_2 x_l_at_3 x_l_at_4 x_l_at_5 x_l_at_6 x_l_at_7 x_l_at_8 x_l_at_9 x_l_at_10 x_l_at_11 s.1 s.2.1 s.2.2) s

noncomputable def m_plist_list_pages (nw : Nat) (cur : List Int) (x_l_c_Workers : Int) (x_l_c_CPUs : Int) (x_l_c_Pages : Int) (x_l_c_Stripes : Int) (x_l_c_Tries : Int) (x_l_c_Wait : Int) (x_l_c_Clock : Int) (x_l_c_Private : Int) (x_l_c_Cache : Int) (x_l_c_Bin : Int) (x_l_c_Batch : Int) (x_l_at_0 : Int) (x_l_at_1 : Int) (x_l_at_2 : Int) (x_l_at_3 : Int) (x_l_at_4 : Int) (x_l_at_5 : Int) (x_l_at_6 : Int) (x_l_at_7 : Int) (x_l_at_8 : Int) (x_l_at_9 : Int) (x_l_at_10 : Int) (x_l_at_11 : Int) (x_head : Int) : Option ((List Int)) :=
  ((m_layout_Layout_Config (T_layout_Layout.mk (T_api_Config.mk x_l_c_Workers x_l_c_CPUs x_l_c_Pages x_l_c_Stripes x_l_c_Tries x_l_c_Wait x_l_c_Clock x_l_c_Private x_l_c_Cache x_l_c_Bin x_l_c_Batch) x_l_at_0 x_l_at_1 x_l_at_2 x_l_at_3 x_l_at_4 x_l_at_5 x_l_at_6 x_l_at_7 x_l_at_8 x_l_at_9 x_l_at_10 x_l_at_11)).bind fun y0 => (bif (inR x_head nw) then (bif (Decidable.decide (rd cur x_head ≤ 0)) then some (([])) else (bif (T_api_Config.Pages y0 == 0) then some (([])) else ((m_layout_Layout_Next (T_layout_Layout.mk (T_api_Config.mk x_l_c_Workers x_l_c_CPUs x_l_c_Pages x_l_c_Stripes x_l_c_Tries x_l_c_Wait x_l_c_Clock x_l_c_Private x_l_c_Cache x_l_c_Bin x_l_c_Batch) x_l_at_0 x_l_at_1 x_l_at_2 x_l_at_3 x_l_at_4 x_l_at_5 x_l_at_6 x_l_at_7 x_l_at_8 x_l_at_9 x_l_at_10 x_l_at_11) (IntKind.wrap IntKind.i64 (rd cur x_head - 1))).bind fun y1 => (bif (inR y1 nw) then (lp_plist_list_pages_L1 nw cur x_l_c_Workers x_l_c_CPUs x_l_c_Pages x_l_c_Stripes x_l_c_Tries x_l_c_Wait x_l_c_Clock x_l_c_Private x_l_c_Cache x_l_c_Bin x_l_c_Batch x_l_at_0 x_l_at_1 x_l_at_2 x_l_at_3 x_l_at_4 x_l_at_5 x_l_at_6 x_l_at_7 x_l_at_8 x_l_at_9 x_l_at_10 x_l_at_11 ((IntKind.wrap IntKind.i64 (T_api_Config.Pages y0 - 1)), (rd cur y1), ([IntKind.wrap IntKind.i64 (rd cur x_head - 1)]))) else none)))) else none))

noncomputable def m_plist_Link (nw : Nat) (cur : List Int) (l2 : T_layout_Layout) (p : Int) (c : Int) (f : Int) : Option (Bool × (List Int)) :=
  ((m_plist_of nw cur l2 p c f).bind fun y0 => (bif (!Prod.snd (Prod.snd (Prod.snd (Prod.snd (Prod.snd (Prod.snd (Prod.snd (Prod.snd (Prod.snd (Prod.snd (Prod.snd (Prod.snd (Prod.snd (Prod.snd (Prod.snd (Prod.snd (Prod.snd (Prod.snd (Prod.snd (Prod.snd (Prod.snd (Prod.snd (Prod.snd (Prod.snd y0)))))))))))))))))))))))) then some (((Bool.false), (cur))) else (bif (inR (Prod.fst (Prod.snd (Prod.snd (Prod.snd (Prod.snd (Prod.snd (Prod.snd (Prod.snd (Prod.snd (Prod.snd (Prod.snd (Prod.snd (Prod.snd (Prod.snd (Prod.snd (Prod.snd (Prod.snd (Prod.snd (Prod.snd (Prod.snd (Prod.snd (Prod.snd (Prod.snd (Prod.snd y0)))))))))))))))))))))))) nw) then ((m_layout_Layout_Next l2 p).bind fun y1 => (bif (inR y1 nw) then ((m_layout_Layout_Prev l2 p).bind fun y2 => (bif (inR y2 nw) then (bif (rd cur (Prod.fst (Prod.snd (Prod.snd (Prod.snd (Prod.snd (Prod.snd (Prod.snd (Prod.snd (Prod.snd (Prod.snd (Prod.snd (Prod.snd (Prod.snd (Prod.snd (Prod.snd (Prod.snd (Prod.snd (Prod.snd (Prod.snd (Prod.snd (Prod.snd (Prod.snd (Prod.snd (Prod.snd y0)))))))))))))))))))))))) != 0) then ((m_layout_Layout_Prev l2 (IntKind.wrap IntKind.i64 (rd cur (Prod.fst (Prod.snd (Prod.snd (Prod.snd (Prod.snd (Prod.snd (Prod.snd (Prod.snd (Prod.snd (Prod.snd (Prod.snd (Prod.snd (Prod.snd (Prod.snd (Prod.snd (Prod.snd (Prod.snd (Prod.snd (Prod.snd (Prod.snd (Prod.snd (Prod.snd (Prod.snd (Prod.snd y0)))))))))))))))))))))))) - 1))).bind fun y3 => (bif (inR y3 nw) then (bif (inR (Prod.fst (Prod.snd (Prod.snd (Prod.snd (Prod.snd (Prod.snd (Prod.snd (Prod.snd (Prod.snd (Prod.snd (Prod.snd (Prod.snd (Prod.snd (Prod.snd (Prod.snd (Prod.snd (Prod.snd (Prod.snd (Prod.snd (Prod.snd (Prod.snd (Prod.snd (Prod.snd (Prod.snd y0)))))))))))))))))))))))) nw) then some (((Bool.true), (wr (wr (wr (wr cur y1 (rd cur (Prod.fst (Prod.snd (Prod.snd (Prod.snd (Prod.snd (Prod.snd (Prod.snd (Prod.snd (Prod.snd (Prod.snd (Prod.snd (Prod.snd (Prod.snd (Prod.snd (Prod.snd (Prod.snd (Prod.snd (Prod.snd (Prod.snd (Prod.snd (Prod.snd (Prod.snd (Prod.snd (Prod.snd y0)))))))))))))))))))))))))) y2 0) y3 (IntKind.wrap IntKind.i64 (p + 1))) (Prod.fst (Prod.snd (Prod.snd (Prod.snd (Prod.snd (Prod.snd (Prod.snd (Prod.snd (Prod.snd (Prod.snd (Prod.snd (Prod.snd (Prod.snd (Prod.snd (Prod.snd (Prod.snd (Prod.snd (Prod.snd (Prod.snd (Prod.snd (Prod.snd (Prod.snd (Prod.snd (Prod.snd y0)))))))))))))))))))))))) (IntKind.wrap IntKind.i64 (p + 1))))) else none) else none)) else (bif (inR (Prod.fst (Prod.snd (Prod.snd (Prod.snd (Prod.snd (Prod.snd (Prod.snd (Prod.snd (Prod.snd (Prod.snd (Prod.snd (Prod.snd (Prod.snd (Prod.snd (Prod.snd (Prod.snd (Prod.snd (Prod.snd (Prod.snd (Prod.snd (Prod.snd (Prod.snd (Prod.snd (Prod.snd y0)))))))))))))))))))))))) nw) then some (((Bool.true), (wr (wr (wr cur y1 (rd cur (Prod.fst (Prod.snd (Prod.snd (Prod.snd (Prod.snd (Prod.snd (Prod.snd (Prod.snd (Prod.snd (Prod.snd (Prod.snd (Prod.snd (Prod.snd (Prod.snd (Prod.snd (Prod.snd (Prod.snd (Prod.snd (Prod.snd (Prod.snd (Prod.snd (Prod.snd (Prod.snd (Prod.snd y0)))))))))))))))))))))))))) y2 0) (Prod.fst (Prod.snd (Prod.snd (Prod.snd (Prod.snd (Prod.snd (Prod.snd (Prod.snd (Prod.snd (Prod.snd (Prod.snd (Prod.snd (Prod.snd (Prod.snd (Prod.snd (Prod.snd (Prod.snd (Prod.snd (Prod.snd (Prod.snd (Prod.snd (Prod.snd (Prod.snd (Prod.snd y0)))))))))))))))))))))))) (IntKind.wrap IntKind.i64 (p + 1))))) else none)) else none)) else none)) else none)))

noncomputable def m_plist_Unlink (nw : Nat) (cur : List Int) (l2 : T_layout_Layout) (p : Int) (c : Int) (f : Int) : Option (Bool × (List Int)) :=
  ((m_plist_of nw cur l2 p c f).bind fun y0 => (bif (!Prod.snd (Prod.snd (Prod.snd (Prod.snd (Prod.snd (Prod.snd (Prod.snd (Prod.snd (Prod.snd (Prod.snd (Prod.snd (Prod.snd (Prod.snd (Prod.snd (Prod.snd (Prod.snd (Prod.snd (Prod.snd (Prod.snd (Prod.snd (Prod.snd (Prod.snd (Prod.snd (Prod.snd y0)))))))))))))))))))))))) then some (((Bool.false), (cur))) else ((m_plist_list_pages nw cur (Prod.fst y0) (Prod.fst (Prod.snd y0)) (Prod.fst (Prod.snd (Prod.snd y0))) (Prod.fst (Prod.snd (Prod.snd (Prod.snd y0)))) (Prod.fst (Prod.snd (Prod.snd (Prod.snd (Prod.snd y0))))) (Prod.fst (Prod.snd (Prod.snd (Prod.snd (Prod.snd (Prod.snd y0)))))) (Prod.fst (Prod.snd (Prod.snd (Prod.snd (Prod.snd (Prod.snd (Prod.snd y0))))))) (Prod.fst (Prod.snd (Prod.snd (Prod.snd (Prod.snd (Prod.snd (Prod.snd (Prod.snd y0)))))))) (Prod.fst (Prod.snd (Prod.snd (Prod.snd (Prod.snd (Prod.snd (Prod.snd (Prod.snd (Prod.snd y0))))))))) (Prod.fst (Prod.snd (Prod.snd (Prod.snd (Prod.snd (Prod.snd (Prod.snd (Prod.snd (Prod.snd (Prod.snd y0)))))))))) (Prod.fst (Prod.snd (Prod.snd (Prod.snd (Prod.snd (Prod.snd (Prod.snd (Prod.snd (Prod.snd (Prod.snd (Prod.snd y0))))))))))) (Prod.fst (Prod.snd (Prod.snd (Prod.snd (Prod.snd (Prod.snd (Prod.snd (Prod.snd (Prod.snd (Prod.snd (Prod.snd (Prod.snd y0)))))))))))) (Prod.fst (Prod.snd (Prod.snd (Prod.snd (Prod.snd (Prod.snd (Prod.snd (Prod.snd (Prod.snd (Prod.snd (Prod.snd (Prod.snd (Prod.snd y0))))))))))))) (Prod.fst (Prod.snd (Prod.snd (Prod.snd (Prod.snd (Prod.snd (Prod.snd (Prod.snd (Prod.snd (Prod.snd (Prod.snd (Prod.snd (Prod.snd (Prod.snd y0)))))))))))))) (Prod.fst (Prod.snd (Prod.snd (Prod.snd (Prod.snd (Prod.snd (Prod.snd (Prod.snd (Prod.snd (Prod.snd (Prod.snd (Prod.snd (Prod.snd (Prod.snd (Prod.snd y0))))))))))))))) (Prod.fst (Prod.snd (Prod.snd (Prod.snd (Prod.snd (Prod.snd (Prod.snd (Prod.snd (Prod.snd (Prod.snd (Prod.snd (Prod.snd (Prod.snd (Prod.snd (Prod.snd (Prod.snd y0)))))))))))))))) (Prod.fst (Prod.snd (Prod.snd (Prod.snd (Prod.snd (Prod.snd (Prod.snd (Prod.snd (Prod.snd (Prod.snd (Prod.snd (Prod.snd (Prod.snd (Prod.snd (Prod.snd (Prod.snd (Prod.snd y0))))))))))))))))) (Prod.fst (Prod.snd (Prod.snd (Prod.snd (Prod.snd (Prod.snd (Prod.snd (Prod.snd (Prod.snd (Prod.snd (Prod.snd (Prod.snd (Prod.snd (Prod.snd (Prod.snd (Prod.snd (Prod.snd (Prod.snd y0)))))))))))))))))) (Prod.fst (Prod.snd (Prod.snd (Prod.snd (Prod.snd (Prod.snd (Prod.snd (Prod.snd (Prod.snd (Prod.snd (Prod.snd (Prod.snd (Prod.snd (Prod.snd (Prod.snd (Prod.snd (Prod.snd (Prod.snd (Prod.snd y0))))))))))))))))))) (Prod.fst (Prod.snd (Prod.snd (Prod.snd (Prod.snd (Prod.snd (Prod.snd (Prod.snd (Prod.snd (Prod.snd (Prod.snd (Prod.snd (Prod.snd (Prod.snd (Prod.snd (Prod.snd (Prod.snd (Prod.snd (Prod.snd (Prod.snd y0)))))))))))))))))))) (Prod.fst (Prod.snd (Prod.snd (Prod.snd (Prod.snd (Prod.snd (Prod.snd (Prod.snd (Prod.snd (Prod.snd (Prod.snd (Prod.snd (Prod.snd (Prod.snd (Prod.snd (Prod.snd (Prod.snd (Prod.snd (Prod.snd (Prod.snd (Prod.snd y0))))))))))))))))))))) (Prod.fst (Prod.snd (Prod.snd (Prod.snd (Prod.snd (Prod.snd (Prod.snd (Prod.snd (Prod.snd (Prod.snd (Prod.snd (Prod.snd (Prod.snd (Prod.snd (Prod.snd (Prod.snd (Prod.snd (Prod.snd (Prod.snd (Prod.snd (Prod.snd (Prod.snd y0)))))))))))))))))))))) (Prod.fst (Prod.snd (Prod.snd (Prod.snd (Prod.snd (Prod.snd (Prod.snd (Prod.snd (Prod.snd (Prod.snd (Prod.snd (Prod.snd (Prod.snd (Prod.snd (Prod.snd (Prod.snd (Prod.snd (Prod.snd (Prod.snd (Prod.snd (Prod.snd (Prod.snd (Prod.snd y0))))))))))))))))))))))) (Prod.fst (Prod.snd (Prod.snd (Prod.snd (Prod.snd (Prod.snd (Prod.snd (Prod.snd (Prod.snd (Prod.snd (Prod.snd (Prod.snd (Prod.snd (Prod.snd (Prod.snd (Prod.snd (Prod.snd (Prod.snd (Prod.snd (Prod.snd (Prod.snd (Prod.snd (Prod.snd (Prod.snd y0))))))))))))))))))))))))).bind fun y1 => ((m_slices_Contains_int_int p y1).bind fun y2 => (bif (!y2) then some (((Bool.false), (cur))) else ((m_layout_Layout_Prev l2 p).bind fun y3 => (bif (inR y3 nw) then ((m_layout_Layout_Next l2 p).bind fun y4 => (bif (inR y4 nw) then (bif (rd cur y3 == 0) then (bif (inR (Prod.fst (Prod.snd (Prod.snd (Prod.snd (Prod.snd (Prod.snd (Prod.snd (Prod.snd (Prod.snd (Prod.snd (Prod.snd (Prod.snd (Prod.snd (Prod.snd (Prod.snd (Prod.snd (Prod.snd (Prod.snd (Prod.snd (Prod.snd (Prod.snd (Prod.snd (Prod.snd (Prod.snd y0)))))))))))))))))))))))) nw) then (bif (rd cur y4 != 0) then ((m_layout_Layout_Prev l2 (IntKind.wrap IntKind.i64 (rd cur y4 - 1))).bind fun y5 => (bif (inR y5 nw) then ((m_layout_Layout_Next l2 p).bind fun y6 => (bif (inR y6 nw) then ((m_layout_Layout_Prev l2 p).bind fun y7 => (bif (inR y7 nw) then some (((Bool.true), (wr (wr (wr (wr cur (Prod.fst (Prod.snd (Prod.snd (Prod.snd (Prod.snd (Prod.snd (Prod.snd (Prod.snd (Prod.snd (Prod.snd (Prod.snd (Prod.snd (Prod.snd (Prod.snd (Prod.snd (Prod.snd (Prod.snd (Prod.snd (Prod.snd (Prod.snd (Prod.snd (Prod.snd (Prod.snd (Prod.snd y0)))))))))))))))))))))))) (rd cur y4)) y5 (rd cur y3)) y6 0) y7 0))) else none)) else none)) else none)) else ((m_layout_Layout_Next l2 p).bind fun y8 => (bif (inR y8 nw) then ((m_layout_Layout_Prev l2 p).bind fun y9 => (bif (inR y9 nw) then some (((Bool.true), (wr (wr (wr cur (Prod.fst (Prod.snd (Prod.snd (Prod.snd (Prod.snd (Prod.snd (Prod.snd (Prod.snd (Prod.snd (Prod.snd (Prod.snd (Prod.snd (Prod.snd (Prod.snd (Prod.snd (Prod.snd (Prod.snd (Prod.snd (Prod.snd (Prod.snd (Prod.snd (Prod.snd (Prod.snd (Prod.snd y0)))))))))))))))))))))))) (rd cur y4)) y8 0) y9 0))) else none)) else none))) else none) else ((m_layout_Layout_Next l2 (IntKind.wrap IntKind.i64 (rd cur y3 - 1))).bind fun y10 => (bif (inR y10 nw) then (bif (rd cur y4 != 0) then ((m_layout_Layout_Prev l2 (IntKind.wrap IntKind.i64 (rd cur y4 - 1))).bind fun y11 => (bif (inR y11 nw) then ((m_layout_Layout_Next l2 p).bind fun y12 => (bif (inR y12 nw) then ((m_layout_Layout_Prev l2 p).bind fun y13 => (bif (inR y13 nw) then some (((Bool.true), (wr (wr (wr (wr cur y10 (rd cur y4)) y11 (rd cur y3)) y12 0) y13 0))) else none)) else none)) else none)) else ((m_layout_Layout_Next l2 p).bind fun y14 => (bif (inR y14 nw) then ((m_layout_Layout_Prev l2 p).bind fun y15 => (bif (inR y15 nw) then some (((Bool.true), (wr (wr (wr cur y10 (rd cur y4)) y14 0) y15 0))) else none)) else none))) else none))) else none)) else none)))))))

noncomputable def m_plist_List (nw : Nat) (cur : List Int) (l2 : T_layout_Layout) (c : Int) (f : Int) : Option ((List Int)) :=
  ((m_plist_of nw cur l2 0 c f).bind fun y0 => (bif (!Prod.snd (Prod.snd (Prod.snd (Prod.snd (Prod.snd (Prod.snd (Prod.snd (Prod.snd (Prod.snd (Prod.snd (Prod.snd (Prod.snd (Prod.snd (Prod.snd (Prod.snd (Prod.snd (Prod.snd (Prod.snd (Prod.snd (Prod.snd (Prod.snd (Prod.snd (Prod.snd (Prod.snd y0)))))))))))))))))))))))) then some (([])) else ((m_plist_list_pages nw cur (Prod.fst y0) (Prod.fst (Prod.snd y0)) (Prod.fst (Prod.snd (Prod.snd y0))) (Prod.fst (Prod.snd (Prod.snd (Prod.snd y0)))) (Prod.fst (Prod.snd (Prod.snd (Prod.snd (Prod.snd y0))))) (Prod.fst (Prod.snd (Prod.snd (Prod.snd (Prod.snd (Prod.snd y0)))))) (Prod.fst (Prod.snd (Prod.snd (Prod.snd (Prod.snd (Prod.snd (Prod.snd y0))))))) (Prod.fst (Prod.snd (Prod.snd (Prod.snd (Prod.snd (Prod.snd (Prod.snd (Prod.snd y0)))))))) (Prod.fst (Prod.snd (Prod.snd (Prod.snd (Prod.snd (Prod.snd (Prod.snd (Prod.snd (Prod.snd y0))))))))) (Prod.fst (Prod.snd (Prod.snd (Prod.snd (Prod.snd (Prod.snd (Prod.snd (Prod.snd (Prod.snd (Prod.snd y0)))))))))) (Prod.fst (Prod.snd (Prod.snd (Prod.snd (Prod.snd (Prod.snd (Prod.snd (Prod.snd (Prod.snd (Prod.snd (Prod.snd y0))))))))))) (Prod.fst (Prod.snd (Prod.snd (Prod.snd (Prod.snd (Prod.snd (Prod.snd (Prod.snd (Prod.snd (Prod.snd (Prod.snd (Prod.snd y0)))))))))))) (Prod.fst (Prod.snd (Prod.snd (Prod.snd (Prod.snd (Prod.snd (Prod.snd (Prod.snd (Prod.snd (Prod.snd (Prod.snd (Prod.snd (Prod.snd y0))))))))))))) (Prod.fst (Prod.snd (Prod.snd (Prod.snd (Prod.snd (Prod.snd (Prod.snd (Prod.snd (Prod.snd (Prod.snd (Prod.snd (Prod.snd (Prod.snd (Prod.snd y0)))))))))))))) (Prod.fst (Prod.snd (Prod.snd (Prod.snd (Prod.snd (Prod.snd (Prod.snd (Prod.snd (Prod.snd (Prod.snd (Prod.snd (Prod.snd (Prod.snd (Prod.snd (Prod.snd y0))))))))))))))) (Prod.fst (Prod.snd (Prod.snd (Prod.snd (Prod.snd (Prod.snd (Prod.snd (Prod.snd (Prod.snd (Prod.snd (Prod.snd (Prod.snd (Prod.snd (Prod.snd (Prod.snd (Prod.snd y0)))))))))))))))) (Prod.fst (Prod.snd (Prod.snd (Prod.snd (Prod.snd (Prod.snd (Prod.snd (Prod.snd (Prod.snd (Prod.snd (Prod.snd (Prod.snd (Prod.snd (Prod.snd (Prod.snd (Prod.snd (Prod.snd y0))))))))))))))))) (Prod.fst (Prod.snd (Prod.snd (Prod.snd (Prod.snd (Prod.snd (Prod.snd (Prod.snd (Prod.snd (Prod.snd (Prod.snd (Prod.snd (Prod.snd (Prod.snd (Prod.snd (Prod.snd (Prod.snd (Prod.snd y0)))))))))))))))))) (Prod.fst (Prod.snd (Prod.snd (Prod.snd (Prod.snd (Prod.snd (Prod.snd (Prod.snd (Prod.snd (Prod.snd (Prod.snd (Prod.snd (Prod.snd (Prod.snd (Prod.snd (Prod.snd (Prod.snd (Prod.snd (Prod.snd y0))))))))))))))))))) (Prod.fst (Prod.snd (Prod.snd (Prod.snd (Prod.snd (Prod.snd (Prod.snd (Prod.snd (Prod.snd (Prod.snd (Prod.snd (Prod.snd (Prod.snd (Prod.snd (Prod.snd (Prod.snd (Prod.snd (Prod.snd (Prod.snd (Prod.snd y0)))))))))))))))))))) (Prod.fst (Prod.snd (Prod.snd (Prod.snd (Prod.snd (Prod.snd (Prod.snd (Prod.snd (Prod.snd (Prod.snd (Prod.snd (Prod.snd (Prod.snd (Prod.snd (Prod.snd (Prod.snd (Prod.snd (Prod.snd (Prod.snd (Prod.snd (Prod.snd y0))))))))))))))))))))) (Prod.fst (Prod.snd (Prod.snd (Prod.snd (Prod.snd (Prod.snd (Prod.snd (Prod.snd (Prod.snd (Prod.snd (Prod.snd (Prod.snd (Prod.snd (Prod.snd (Prod.snd (Prod.snd (Prod.snd (Prod.snd (Prod.snd (Prod.snd (Prod.snd (Prod.snd y0)))))))))))))))))))))) (Prod.fst (Prod.snd (Prod.snd (Prod.snd (Prod.snd (Prod.snd (Prod.snd (Prod.snd (Prod.snd (Prod.snd (Prod.snd (Prod.snd (Prod.snd (Prod.snd (Prod.snd (Prod.snd (Prod.snd (Prod.snd (Prod.snd (Prod.snd (Prod.snd (Prod.snd (Prod.snd y0))))))))))))))))))))))) (Prod.fst (Prod.snd (Prod.snd (Prod.snd (Prod.snd (Prod.snd (Prod.snd (Prod.snd (Prod.snd (Prod.snd (Prod.snd (Prod.snd (Prod.snd (Prod.snd (Prod.snd (Prod.snd (Prod.snd (Prod.snd (Prod.snd (Prod.snd (Prod.snd (Prod.snd (Prod.snd (Prod.snd y0))))))))))))))))))))))))).bind fun y1 => some ((y1)))))

noncomputable def sb_plist_First_L1 (nw : Nat) (cur : List Int) (l2 : T_layout_Layout) (c : Int) (f : Int) : Option ((Int) ⊕ (Int)) :=
  ((m_class_Slots c).bind fun y0 => (bif (Decidable.decide (f ≤ y0)) then ((m_layout_Layout_Head l2 c f).bind fun y1 => (bif (inR y1 nw) then (bif (Decidable.decide (rd cur y1 > 0)) then some (.inr ((IntKind.wrap IntKind.i64 (rd cur y1 - 1)))) else some (.inl (IntKind.wrap IntKind.i64 (f + 1)))) else none)) else some (.inr ((-1)))))

noncomputable def lp_plist_First_L1 (nw : Nat) (cur : List Int) (l2 : T_layout_Layout) (c : Int) (s : Int) : Option (Int) :=
  loopO (fun s => sb_plist_First_L1 nw cur l2 c s) s

noncomputable def m_plist_First (nw : Nat) (cur : List Int) (l2 : T_layout_Layout) (c : Int) : Option (Int) :=
  (lp_plist_First_L1 nw cur l2 c (1))

attribute [local irreducible] Loop ex exF contK roundK retK at_ bodyOf mkEnv
theorem ok_class_Size : SpecOK Try.prog elTT 92 (sp_class_Size m_class_Size) := by
  refine spec_of_exF (cfg := cfg_class_Size) (cfg_ok rfl rfl rfl) (sig_cons (inlS_ok (cfg := { cfgB with sigs := (sigC 158 (inlS cfgB Try.f158) sigN) }) (cfg_ok rfl rfl rfl) (sig_cons (inlS_ok (cfg := cfgB) (cfg_ok rfl rfl rfl) (nosig rfl) (by kernel_rfl) (by kernel_rfl) (by kernel_rfl)) sig_nil) (by kernel_rfl) (by kernel_rfl) (by kernel_rfl)) sig_nil) (fn := Try.f92) (by kernel_rfl) (by kernel_rfl) (by kernel_rfl) ?_
  intro args H K h
  change tr_class_Size m_class_Size args H K at h
  unfold tr_class_Size at h
  replace h := aC_el h
  obtain ⟨a0, _, rfl, h⟩ := h
  replace h := aN_el h
  obtain ⟨rfl, h⟩ := h
  replace h := aInt_el h
  obtain ⟨c, rfl, h⟩ := h
  replace h := aN_el h
  obtain ⟨rfl, h⟩ := h
  refine Eq.mpr (nf_class_Size c K) ?_
  unfold m_class_Size at h
  revert h
  exact br_So (fun h => h) (br_So (fun h => h) (req_So (br_So (fun h => h) (br_So (fun h => h) (br_So (fun h => h) (br_So (fun h => h) (br_So (fun h => h) (fun _ => trivial))))))))

theorem ok_class_Slots : SpecOK Try.prog elTT 41 (sp_class_Slots m_class_Slots) := by
  refine spec_of_exF (cfg := (cfg_class_Slots m_class_Size)) (cfg_ok rfl rfl rfl) (sig_cons ok_class_Size sig_nil) (fn := Try.f41) (by kernel_rfl) (by kernel_rfl) (by kernel_rfl) ?_
  intro args H K h
  change tr_class_Slots m_class_Slots args H K at h
  unfold tr_class_Slots at h
  replace h := aC_el h
  obtain ⟨a0, _, rfl, h⟩ := h
  replace h := aN_el h
  obtain ⟨rfl, h⟩ := h
  replace h := aInt_el h
  obtain ⟨c, rfl, h⟩ := h
  replace h := aN_el h
  obtain ⟨rfl, h⟩ := h
  refine Eq.mpr (nf_class_Slots m_class_Size c K) ?_
  unfold m_class_Slots at h
  revert h
  exact bind_So fun y0 => br_So (req_So (fun h => h)) (fun h => h)

theorem lpok_slices_Index_int_int_L1 (v : Int) (sv : List Int) (t7 : Int) (t8 : Int) (K : V → Heap → Prop) : So (lp_slices_Index_int_int_L1 (v) (sv) (t7) t8) (fun (x : Int) => K (vi (x)) [.row 0 sv true]) → Loop cfg_slices_Index_int_int (⟨19, 1⟩ : Cx) (at_ (bodyOf Try.f129) [1, 0, 1, 0, 0]) (mkEnv [(0, .row 0), (1, vi (v)), (7, vi (t7)), (8, vi (t8))]) [.row 0 (sv : List (Int)) Bool.true] (contK cfg_slices_Index_int_int (⟨19, 1⟩ : Cx) (bodyOf Try.f129) [1, 0, 1, 0] (retK cfg_slices_Index_int_int Try.f129 1 K)) := by
  refine loopK_So (fun (s_ : Int) => (mkEnv [(0, .row 0), (1, vi (v)), (7, vi (t7)), (8, vi ((s_)))])) (fun (s_ : Int) => [.row 0 (sv : List (Int)) Bool.true]) (fun (x : Int) => K (vi (x)) [.row 0 sv true]) ?_ t8
  intro s_ J1 h
  clear t8
  revert h; revert s_; intro t8 h
  refine Eq.mpr (nf_slices_Index_int_int_L1 v sv t7 t8 K J1) ?_
  have h : So (sb_slices_Index_int_int_L1 (v) (sv) (t7) t8) _ := h
  unfold sb_slices_Index_int_int_L1 at h
  revert h
  exact br_So (req_So (req_So (br_So (fun h => h) (fun h => h)))) (fun h => h)

theorem ok_slices_Index_int_int : SpecOK Try.prog elTT 129 (sp_slices_Index_int_int m_slices_Index_int_int) := by
  refine spec_of_exF (cfg := cfg_slices_Index_int_int) (cfg_ok rfl rfl rfl) sig_nil (fn := Try.f129) (by kernel_rfl) (by kernel_rfl) (by kernel_rfl) ?_
  intro args H K h
  change tr_slices_Index_int_int m_slices_Index_int_int args H K at h
  unfold tr_slices_Index_int_int at h
  replace h := aC_el h
  obtain ⟨a0, _, rfl, h⟩ := h
  replace h := aC_el h
  obtain ⟨a1, _, rfl, h⟩ := h
  replace h := aN_el h
  obtain ⟨rfl, h⟩ := h
  replace h := aRow_el h
  obtain ⟨rfl, h⟩ := h
  replace h := aInt_el h
  obtain ⟨v, rfl, h⟩ := h
  replace h := aC_el h
  obtain ⟨b0, _, rfl, h⟩ := h
  replace h := aN_el h
  obtain ⟨rfl, h⟩ := h
  replace h := bRow_el h
  obtain ⟨(sv : List Int), rfl, h⟩ := h
  refine Eq.mpr (nf_slices_Index_int_int v sv K) ?_
  unfold m_slices_Index_int_int at h
  revert h
  exact lpok_slices_Index_int_int_L1 v sv ((↑(List.length sv) : Int)) (0) K

theorem ok_slices_Contains_int_int : SpecOK Try.prog elTT 89 (sp_slices_Contains_int_int m_slices_Contains_int_int) := by
  refine spec_of_exF (cfg := (cfg_slices_Contains_int_int m_slices_Index_int_int)) (cfg_ok rfl rfl rfl) (sig_cons ok_slices_Index_int_int sig_nil) (fn := Try.f89) (by kernel_rfl) (by kernel_rfl) (by kernel_rfl) ?_
  intro args H K h
  change tr_slices_Contains_int_int m_slices_Contains_int_int args H K at h
  unfold tr_slices_Contains_int_int at h
  replace h := aC_el h
  obtain ⟨a0, _, rfl, h⟩ := h
  replace h := aC_el h
  obtain ⟨a1, _, rfl, h⟩ := h
  replace h := aN_el h
  obtain ⟨rfl, h⟩ := h
  replace h := aRow_el h
  obtain ⟨rfl, h⟩ := h
  replace h := aInt_el h
  obtain ⟨v, rfl, h⟩ := h
  replace h := aC_el h
  obtain ⟨b0, _, rfl, h⟩ := h
  replace h := aN_el h
  obtain ⟨rfl, h⟩ := h
  replace h := bRow_el h
  obtain ⟨(sv : List Int), rfl, h⟩ := h
  refine Eq.mpr (nf_slices_Contains_int_int m_slices_Index_int_int v sv K) ?_
  unfold m_slices_Contains_int_int at h
  revert h
  exact bind_So fun y0 => fun h => h

theorem ok_plist_of : SpecOK Try.prog elTT 87 (sp_plist_of m_plist_of) := by
  refine spec_of_exF (cfg := (cfg_plist_of m_layout_Layout_Head m_layout_Layout_Config)) (cfg_ok rfl rfl rfl) (sig_cons ok_layout_Layout_Head (sig_cons ok_layout_Layout_Config sig_nil)) (fn := Try.f87) (by kernel_rfl) (by kernel_rfl) (by kernel_rfl) ?_
  intro args H K h
  change tr_plist_of m_plist_of args H K at h
  unfold tr_plist_of at h
  replace h := aC_el h
  obtain ⟨a0, _, rfl, h⟩ := h
  replace h := aC_el h
  obtain ⟨a1, _, rfl, h⟩ := h
  replace h := aC_el h
  obtain ⟨a2, _, rfl, h⟩ := h
  replace h := aC_el h
  obtain ⟨a3, _, rfl, h⟩ := h
  replace h := aC_el h
  obtain ⟨a4, _, rfl, h⟩ := h
  replace h := aN_el h
  obtain ⟨rfl, h⟩ := h
  replace h := aPtr_el h
  obtain ⟨rfl, h⟩ := h
  replace h := aAgg_el h
  obtain ⟨c1, rfl, h⟩ := h
  replace h := d_layout_Layout_el h
  obtain ⟨l2, rfl, h⟩ := h
  replace h := aInt_el h
  obtain ⟨p, rfl, h⟩ := h
  replace h := aInt_el h
  obtain ⟨c, rfl, h⟩ := h
  replace h := aInt_el h
  obtain ⟨f, rfl, h⟩ := h
  replace h := aC_el h
  obtain ⟨b0, _, rfl, h⟩ := h
  replace h := aC_el h
  obtain ⟨b1, _, rfl, h⟩ := h
  replace h := aN_el h
  obtain ⟨rfl, h⟩ := h
  replace h := bView_el h
  obtain ⟨ws, cur, xs, rfl, h⟩ := h
  replace h := bRow_el h
  obtain ⟨(l : List Int), rfl, h⟩ := h
  obtain ⟨rfl, hx, h⟩ := h
  refine Eq.mpr (nf_plist_of m_layout_Layout_Head m_layout_Layout_Config ws cur xs l2 p c f K) ?_
  unfold m_plist_of at h
  revert h
  exact alt_So (bind_So fun y0 => br_So (br_So (bind_So fun y1 => fun h => h) (fun h => h)) (fun h => h)) (bind_So fun y2 => br_So (br_So (bind_So fun y3 => fun h => h) (fun h => h)) (fun h => h))

theorem lpok_plist_list_pages_L1 (ws : List Int) (cur : List Int) (xs : List Value) (x_l_c_Workers : Int) (x_l_c_CPUs : Int) (x_l_c_Pages : Int) (x_l_c_Stripes : Int) (x_l_c_Tries : Int) (x_l_c_Wait : Int) (x_l_c_Clock : Int) (x_l_c_Private : Int) (x_l_c_Cache : Int) (x_l_c_Bin : Int) (x_l_c_Batch : Int) (x_l_at_0 : Int) (x_l_at_1 : Int) (x_l_at_2 : Int) (x_l_at_3 : Int) (x_l_at_4 : Int) (x_l_at_5 : Int) (x_l_at_6 : Int) (x_l_at_7 : Int) (x_l_at_8 : Int) (x_l_at_9 : Int) (x_l_at_10 : Int) (x_l_at_11 : Int) (x_head : Int) (left : Int) (atv : Int) (w : List Int) (K : V → Heap → Prop) (hx : xs.length ≤ 2) : So (lp_plist_list_pages_L1 (ws.length) (cur) (x_l_c_Workers) (x_l_c_CPUs) (x_l_c_Pages) (x_l_c_Stripes) (x_l_c_Tries) (x_l_c_Wait) (x_l_c_Clock) (x_l_c_Private) (x_l_c_Cache) (x_l_c_Bin) (x_l_c_Batch) (x_l_at_0) (x_l_at_1) (x_l_at_2) (x_l_at_3) (x_l_at_4) (x_l_at_5) (x_l_at_6) (x_l_at_7) (x_l_at_8) (x_l_at_9) (x_l_at_10) (x_l_at_11) (left, atv, w)) (fun (x : (List Int)) => K (.row 2) [.pk 0 [ws, cur] xs [.row 1], .row 0 ws true, .row 0 (x) false]) → Loop (cfg_plist_list_pages m_layout_Layout_Config m_layout_Layout_Next) (⟨37, 2⟩ : Cx) (at_ (bodyOf g_plist_list_pages) [1, 0, 1, 0]) (mkEnv [(1, .ptr 2 0), (3, .row 3), (4, vi (left)), (5, vi (atv))]) [.pk 0 [ws, cur] (xs) [.row 1], .row 0 (ws : List (Int)) Bool.true, .cells 113 [.ptr 0 0, vi (x_l_c_Workers), vi (x_l_c_CPUs), vi (x_l_c_Pages), vi (x_l_c_Stripes), vi (x_l_c_Tries), vi (x_l_c_Wait), vi (x_l_c_Clock), vi (x_l_c_Private), vi (x_l_c_Cache), vi (x_l_c_Bin), vi (x_l_c_Batch), vi (x_l_at_0), vi (x_l_at_1), vi (x_l_at_2), vi (x_l_at_3), vi (x_l_at_4), vi (x_l_at_5), vi (x_l_at_6), vi (x_l_at_7), vi (x_l_at_8), vi (x_l_at_9), vi (x_l_at_10), vi (x_l_at_11), vi (x_head)], .row 0 (w : List (Int)) Bool.false] (contK (cfg_plist_list_pages m_layout_Layout_Config m_layout_Layout_Next) (⟨37, 2⟩ : Cx) (bodyOf g_plist_list_pages) [1, 0, 1] (retK (cfg_plist_list_pages m_layout_Layout_Config m_layout_Layout_Next) g_plist_list_pages 2 K)) := by
  refine loopK_So (fun (s_ : Int × Int × (List Int)) => (mkEnv [(1, .ptr 2 0), (3, .row 3), (4, vi ((s_.1))), (5, vi ((s_.2.1)))])) (fun (s_ : Int × Int × (List Int)) => [.pk 0 [ws, cur] (xs) [.row 1], .row 0 (ws : List (Int)) Bool.true, .cells 113 [.ptr 0 0, vi (x_l_c_Workers), vi (x_l_c_CPUs), vi (x_l_c_Pages), vi (x_l_c_Stripes), vi (x_l_c_Tries), vi (x_l_c_Wait), vi (x_l_c_Clock), vi (x_l_c_Private), vi (x_l_c_Cache), vi (x_l_c_Bin), vi (x_l_c_Batch), vi (x_l_at_0), vi (x_l_at_1), vi (x_l_at_2), vi (x_l_at_3), vi (x_l_at_4), vi (x_l_at_5), vi (x_l_at_6), vi (x_l_at_7), vi (x_l_at_8), vi (x_l_at_9), vi (x_l_at_10), vi (x_l_at_11), vi (x_head)], .row 0 ((s_.2.2) : List (Int)) Bool.false]) (fun (x : (List Int)) => K (.row 2) [.pk 0 [ws, cur] xs [.row 1], .row 0 ws true, .row 0 (x) false]) ?_ (left, atv, w)
  intro s_ J1 h
  clear left
  clear atv
  clear w
  obtain ⟨left, atv, w⟩ := s_
  refine Eq.mpr (nf_plist_list_pages_L1 m_layout_Layout_Config m_layout_Layout_Next ws cur xs x_l_c_Workers x_l_c_CPUs x_l_c_Pages x_l_c_Stripes x_l_c_Tries x_l_c_Wait x_l_c_Clock x_l_c_Private x_l_c_Cache x_l_c_Bin x_l_c_Batch x_l_at_0 x_l_at_1 x_l_at_2 x_l_at_3 x_l_at_4 x_l_at_5 x_l_at_6 x_l_at_7 x_l_at_8 x_l_at_9 x_l_at_10 x_l_at_11 x_head left atv w K J1) ?_
  have h : So (sb_plist_list_pages_L1 (ws.length) (cur) (x_l_c_Workers) (x_l_c_CPUs) (x_l_c_Pages) (x_l_c_Stripes) (x_l_c_Tries) (x_l_c_Wait) (x_l_c_Clock) (x_l_c_Private) (x_l_c_Cache) (x_l_c_Bin) (x_l_c_Batch) (x_l_at_0) (x_l_at_1) (x_l_at_2) (x_l_at_3) (x_l_at_4) (x_l_at_5) (x_l_at_6) (x_l_at_7) (x_l_at_8) (x_l_at_9) (x_l_at_10) (x_l_at_11) left atv w) _ := h
  unfold sb_plist_list_pages_L1 at h
  revert h
  exact br_So (fun h => h) (br_So (fun h => h) (req_So (bind_So fun y0 => and_So (by first | exact rfl | assumption | exact trivial | omega) (and_So (by first | exact rfl | assumption | exact trivial | omega) (req_So (fun h => h))))))

theorem ok_plist_list_pages : SpecOK Try.prog elTT 88 (sp_plist_list_pages m_plist_list_pages) := by
  refine spec_of_exG (cfg := (cfg_plist_list_pages m_layout_Layout_Config m_layout_Layout_Next)) (cfg_ok rfl rfl rfl) (sig_cons ok_layout_Layout_Config (sig_cons rd_ok (sig_cons ok_layout_Layout_Next sig_nil))) (fn := Try.f88) (l := 0) (B := 1000) (G := 1001) (r0 := at_ (bodyOf Try.f88) [0]) (c := gc_plist_list_pages) (rest := gr_plist_list_pages) (by kernel_rfl) (by kernel_rfl) (by kernel_rfl) (by kernel_rfl) (by kernel_rfl) (by kernel_rfl) rfl rfl rfl rfl ?_
  intro args H K h
  change tr_plist_list_pages m_plist_list_pages args H K at h
  unfold tr_plist_list_pages at h
  replace h := aC_el h
  obtain ⟨a0, _, rfl, h⟩ := h
  replace h := aN_el h
  obtain ⟨rfl, h⟩ := h
  replace h := aAgg_el h
  obtain ⟨c0, rfl, h⟩ := h
  replace h := aC_el h
  obtain ⟨a0_0, _, rfl, h⟩ := h
  replace h := aPtr_el h
  obtain ⟨rfl, h⟩ := h
  replace h := aC_el h
  obtain ⟨a0_1, _, rfl, h⟩ := h
  replace h := aInt_el h
  obtain ⟨x_l_c_Workers, rfl, h⟩ := h
  replace h := aC_el h
  obtain ⟨a0_2, _, rfl, h⟩ := h
  replace h := aInt_el h
  obtain ⟨x_l_c_CPUs, rfl, h⟩ := h
  replace h := aC_el h
  obtain ⟨a0_3, _, rfl, h⟩ := h
  replace h := aInt_el h
  obtain ⟨x_l_c_Pages, rfl, h⟩ := h
  replace h := aC_el h
  obtain ⟨a0_4, _, rfl, h⟩ := h
  replace h := aInt_el h
  obtain ⟨x_l_c_Stripes, rfl, h⟩ := h
  replace h := aC_el h
  obtain ⟨a0_5, _, rfl, h⟩ := h
  replace h := aInt_el h
  obtain ⟨x_l_c_Tries, rfl, h⟩ := h
  replace h := aC_el h
  obtain ⟨a0_6, _, rfl, h⟩ := h
  replace h := aInt_el h
  obtain ⟨x_l_c_Wait, rfl, h⟩ := h
  replace h := aC_el h
  obtain ⟨a0_7, _, rfl, h⟩ := h
  replace h := aInt_el h
  obtain ⟨x_l_c_Clock, rfl, h⟩ := h
  replace h := aC_el h
  obtain ⟨a0_8, _, rfl, h⟩ := h
  replace h := aInt_el h
  obtain ⟨x_l_c_Private, rfl, h⟩ := h
  replace h := aC_el h
  obtain ⟨a0_9, _, rfl, h⟩ := h
  replace h := aInt_el h
  obtain ⟨x_l_c_Cache, rfl, h⟩ := h
  replace h := aC_el h
  obtain ⟨a0_10, _, rfl, h⟩ := h
  replace h := aInt_el h
  obtain ⟨x_l_c_Bin, rfl, h⟩ := h
  replace h := aC_el h
  obtain ⟨a0_11, _, rfl, h⟩ := h
  replace h := aInt_el h
  obtain ⟨x_l_c_Batch, rfl, h⟩ := h
  replace h := aC_el h
  obtain ⟨a0_12, _, rfl, h⟩ := h
  replace h := aInt_el h
  obtain ⟨x_l_at_0, rfl, h⟩ := h
  replace h := aC_el h
  obtain ⟨a0_13, _, rfl, h⟩ := h
  replace h := aInt_el h
  obtain ⟨x_l_at_1, rfl, h⟩ := h
  replace h := aC_el h
  obtain ⟨a0_14, _, rfl, h⟩ := h
  replace h := aInt_el h
  obtain ⟨x_l_at_2, rfl, h⟩ := h
  replace h := aC_el h
  obtain ⟨a0_15, _, rfl, h⟩ := h
  replace h := aInt_el h
  obtain ⟨x_l_at_3, rfl, h⟩ := h
  replace h := aC_el h
  obtain ⟨a0_16, _, rfl, h⟩ := h
  replace h := aInt_el h
  obtain ⟨x_l_at_4, rfl, h⟩ := h
  replace h := aC_el h
  obtain ⟨a0_17, _, rfl, h⟩ := h
  replace h := aInt_el h
  obtain ⟨x_l_at_5, rfl, h⟩ := h
  replace h := aC_el h
  obtain ⟨a0_18, _, rfl, h⟩ := h
  replace h := aInt_el h
  obtain ⟨x_l_at_6, rfl, h⟩ := h
  replace h := aC_el h
  obtain ⟨a0_19, _, rfl, h⟩ := h
  replace h := aInt_el h
  obtain ⟨x_l_at_7, rfl, h⟩ := h
  replace h := aC_el h
  obtain ⟨a0_20, _, rfl, h⟩ := h
  replace h := aInt_el h
  obtain ⟨x_l_at_8, rfl, h⟩ := h
  replace h := aC_el h
  obtain ⟨a0_21, _, rfl, h⟩ := h
  replace h := aInt_el h
  obtain ⟨x_l_at_9, rfl, h⟩ := h
  replace h := aC_el h
  obtain ⟨a0_22, _, rfl, h⟩ := h
  replace h := aInt_el h
  obtain ⟨x_l_at_10, rfl, h⟩ := h
  replace h := aC_el h
  obtain ⟨a0_23, _, rfl, h⟩ := h
  replace h := aInt_el h
  obtain ⟨x_l_at_11, rfl, h⟩ := h
  replace h := aC_el h
  obtain ⟨a0_24, _, rfl, h⟩ := h
  replace h := aInt_el h
  obtain ⟨x_head, rfl, h⟩ := h
  replace h := aN_el h
  obtain ⟨rfl, h⟩ := h
  replace h := aC_el h
  obtain ⟨b0, _, rfl, h⟩ := h
  replace h := aC_el h
  obtain ⟨b1, _, rfl, h⟩ := h
  replace h := aN_el h
  obtain ⟨rfl, h⟩ := h
  replace h := bView_el h
  obtain ⟨ws, cur, xs, rfl, h⟩ := h
  replace h := bRow_el h
  obtain ⟨(l : List Int), rfl, h⟩ := h
  obtain ⟨rfl, hx, h⟩ := h
  refine Eq.mpr (nf_plist_list_pages m_layout_Layout_Config m_layout_Layout_Next ws cur xs x_l_c_Workers x_l_c_CPUs x_l_c_Pages x_l_c_Stripes x_l_c_Tries x_l_c_Wait x_l_c_Clock x_l_c_Private x_l_c_Cache x_l_c_Bin x_l_c_Batch x_l_at_0 x_l_at_1 x_l_at_2 x_l_at_3 x_l_at_4 x_l_at_5 x_l_at_6 x_l_at_7 x_l_at_8 x_l_at_9 x_l_at_10 x_l_at_11 x_head K) ?_
  unfold m_plist_list_pages at h
  revert h
  exact bind_So fun y0 => and_So (by first | exact rfl | assumption | exact trivial | omega) (and_So (by first | exact rfl | assumption | exact trivial | omega) (req_So (br_So (fun h => h) (br_So (fun h => h) (bind_So fun y1 => and_So (by first | exact rfl | assumption | exact trivial | omega) (and_So (by first | exact rfl | assumption | exact trivial | omega) (req_So (lpok_plist_list_pages_L1 ws cur xs x_l_c_Workers x_l_c_CPUs x_l_c_Pages x_l_c_Stripes x_l_c_Tries x_l_c_Wait x_l_c_Clock x_l_c_Private x_l_c_Cache x_l_c_Bin x_l_c_Batch x_l_at_0 x_l_at_1 x_l_at_2 x_l_at_3 x_l_at_4 x_l_at_5 x_l_at_6 x_l_at_7 x_l_at_8 x_l_at_9 x_l_at_10 x_l_at_11 x_head (IntKind.wrap IntKind.i64 (T_api_Config.Pages y0 - 1)) (rd cur y1) ([IntKind.wrap IntKind.i64 (rd cur x_head - 1)]) K hx))))))))

theorem ok_plist_Link : SpecOK Try.prog elTT 40 (sp_plist_Link m_plist_Link) := by
  refine spec_of_exF (cfg := (cfg_plist_Link m_plist_of m_layout_Layout_Next m_layout_Layout_Prev)) (cfg_ok rfl rfl rfl) (sig_cons ok_plist_of (sig_cons rd_ok (sig_cons ok_layout_Layout_Next (sig_cons wr_ok (sig_cons ok_layout_Layout_Prev sig_nil))))) (fn := Try.f40) (by kernel_rfl) (by kernel_rfl) (by kernel_rfl) ?_
  intro args H K h
  change tr_plist_Link m_plist_Link args H K at h
  unfold tr_plist_Link at h
  replace h := aC_el h
  obtain ⟨a0, _, rfl, h⟩ := h
  replace h := aC_el h
  obtain ⟨a1, _, rfl, h⟩ := h
  replace h := aC_el h
  obtain ⟨a2, _, rfl, h⟩ := h
  replace h := aC_el h
  obtain ⟨a3, _, rfl, h⟩ := h
  replace h := aC_el h
  obtain ⟨a4, _, rfl, h⟩ := h
  replace h := aN_el h
  obtain ⟨rfl, h⟩ := h
  replace h := aPtr_el h
  obtain ⟨rfl, h⟩ := h
  replace h := aAgg_el h
  obtain ⟨c1, rfl, h⟩ := h
  replace h := d_layout_Layout_el h
  obtain ⟨l2, rfl, h⟩ := h
  replace h := aInt_el h
  obtain ⟨p, rfl, h⟩ := h
  replace h := aInt_el h
  obtain ⟨c, rfl, h⟩ := h
  replace h := aInt_el h
  obtain ⟨f, rfl, h⟩ := h
  replace h := aC_el h
  obtain ⟨b0, _, rfl, h⟩ := h
  replace h := aC_el h
  obtain ⟨b1, _, rfl, h⟩ := h
  replace h := aN_el h
  obtain ⟨rfl, h⟩ := h
  replace h := bView_el h
  obtain ⟨ws, cur, xs, rfl, h⟩ := h
  replace h := bRow_el h
  obtain ⟨(l : List Int), rfl, h⟩ := h
  obtain ⟨rfl, hx, h⟩ := h
  refine Eq.mpr (nf_plist_Link m_plist_of m_layout_Layout_Next m_layout_Layout_Prev ws cur xs l2 p c f K) ?_
  unfold m_plist_Link at h
  revert h
  exact and_So (by first | exact rfl | assumption | exact trivial | omega) (and_So (by first | exact rfl | assumption | exact trivial | omega) (bind_So fun y0 => br_So (fun h => h) (and_So (by first | exact rfl | assumption | exact trivial | omega) (and_So (by first | exact rfl | assumption | exact trivial | omega) (req_So (bind_So fun y1 => and_So (by first | exact rfl | assumption | exact trivial | omega) (and_So (by first | exact rfl | assumption | exact trivial | omega) (req_So (bind_So fun y2 => and_So (by first | exact rfl | assumption | exact trivial | omega) (and_So (by first | exact rfl | assumption | exact trivial | omega) (req_So (br_So (bind_So fun y3 => and_So (by first | exact rfl | assumption | exact trivial | omega) (and_So (by first | exact rfl | assumption | exact trivial | omega) (req_So (and_So (by first | exact rfl | assumption | exact trivial | omega) (and_So (by first | exact rfl | assumption | exact trivial | omega) (req_So (fun h => h))))))) (and_So (by first | exact rfl | assumption | exact trivial | omega) (and_So (by first | exact rfl | assumption | exact trivial | omega) (req_So (fun h => h))))))))))))))))

theorem ok_plist_Unlink : SpecOK Try.prog elTT 39 (sp_plist_Unlink m_plist_Unlink) := by
  refine spec_of_exF (cfg := (cfg_plist_Unlink m_plist_of m_plist_list_pages m_slices_Contains_int_int m_layout_Layout_Prev m_layout_Layout_Next)) (cfg_ok rfl rfl rfl) (sig_cons ok_plist_of (sig_cons ok_plist_list_pages (sig_cons ok_slices_Contains_int_int (sig_cons ok_layout_Layout_Prev (sig_cons rd_ok (sig_cons ok_layout_Layout_Next (sig_cons wr_ok sig_nil))))))) (fn := Try.f39) (by kernel_rfl) (by kernel_rfl) (by kernel_rfl) ?_
  intro args H K h
  change tr_plist_Unlink m_plist_Unlink args H K at h
  unfold tr_plist_Unlink at h
  replace h := aC_el h
  obtain ⟨a0, _, rfl, h⟩ := h
  replace h := aC_el h
  obtain ⟨a1, _, rfl, h⟩ := h
  replace h := aC_el h
  obtain ⟨a2, _, rfl, h⟩ := h
  replace h := aC_el h
  obtain ⟨a3, _, rfl, h⟩ := h
  replace h := aC_el h
  obtain ⟨a4, _, rfl, h⟩ := h
  replace h := aN_el h
  obtain ⟨rfl, h⟩ := h
  replace h := aPtr_el h
  obtain ⟨rfl, h⟩ := h
  replace h := aAgg_el h
  obtain ⟨c1, rfl, h⟩ := h
  replace h := d_layout_Layout_el h
  obtain ⟨l2, rfl, h⟩ := h
  replace h := aInt_el h
  obtain ⟨p, rfl, h⟩ := h
  replace h := aInt_el h
  obtain ⟨c, rfl, h⟩ := h
  replace h := aInt_el h
  obtain ⟨f, rfl, h⟩ := h
  replace h := aC_el h
  obtain ⟨b0, _, rfl, h⟩ := h
  replace h := aC_el h
  obtain ⟨b1, _, rfl, h⟩ := h
  replace h := aN_el h
  obtain ⟨rfl, h⟩ := h
  replace h := bView_el h
  obtain ⟨ws, cur, xs, rfl, h⟩ := h
  replace h := bRow_el h
  obtain ⟨(l : List Int), rfl, h⟩ := h
  obtain ⟨rfl, hx, h⟩ := h
  refine Eq.mpr (nf_plist_Unlink m_plist_of m_plist_list_pages m_slices_Contains_int_int m_layout_Layout_Prev m_layout_Layout_Next ws cur xs l2 p c f K) ?_
  unfold m_plist_Unlink at h
  revert h
  exact and_So (by first | exact rfl | assumption | exact trivial | omega) (and_So (by first | exact rfl | assumption | exact trivial | omega) (bind_So fun y0 => br_So (fun h => h) (and_So (by first | exact rfl | assumption | exact trivial | omega) (and_So (by first | exact rfl | assumption | exact trivial | omega) (bind_So fun y1 => bind_So fun y2 => br_So (fun h => h) (bind_So fun y3 => and_So (by first | exact rfl | assumption | exact trivial | omega) (and_So (by first | exact rfl | assumption | exact trivial | omega) (req_So (bind_So fun y4 => and_So (by first | exact rfl | assumption | exact trivial | omega) (and_So (by first | exact rfl | assumption | exact trivial | omega) (req_So (br_So (and_So (by first | exact rfl | assumption | exact trivial | omega) (and_So (by first | exact rfl | assumption | exact trivial | omega) (req_So (br_So (bind_So fun y5 => and_So (by first | exact rfl | assumption | exact trivial | omega) (and_So (by first | exact rfl | assumption | exact trivial | omega) (req_So (bind_So fun y6 => and_So (by first | exact rfl | assumption | exact trivial | omega) (and_So (by first | exact rfl | assumption | exact trivial | omega) (req_So (bind_So fun y7 => and_So (by first | exact rfl | assumption | exact trivial | omega) (and_So (by first | exact rfl | assumption | exact trivial | omega) (req_So (fun h => h)))))))))) (bind_So fun y8 => and_So (by first | exact rfl | assumption | exact trivial | omega) (and_So (by first | exact rfl | assumption | exact trivial | omega) (req_So (bind_So fun y9 => and_So (by first | exact rfl | assumption | exact trivial | omega) (and_So (by first | exact rfl | assumption | exact trivial | omega) (req_So (fun h => h))))))))))) (bind_So fun y10 => and_So (by first | exact rfl | assumption | exact trivial | omega) (and_So (by first | exact rfl | assumption | exact trivial | omega) (req_So (br_So (bind_So fun y11 => and_So (by first | exact rfl | assumption | exact trivial | omega) (and_So (by first | exact rfl | assumption | exact trivial | omega) (req_So (bind_So fun y12 => and_So (by first | exact rfl | assumption | exact trivial | omega) (and_So (by first | exact rfl | assumption | exact trivial | omega) (req_So (bind_So fun y13 => and_So (by first | exact rfl | assumption | exact trivial | omega) (and_So (by first | exact rfl | assumption | exact trivial | omega) (req_So (fun h => h)))))))))) (bind_So fun y14 => and_So (by first | exact rfl | assumption | exact trivial | omega) (and_So (by first | exact rfl | assumption | exact trivial | omega) (req_So (bind_So fun y15 => and_So (by first | exact rfl | assumption | exact trivial | omega) (and_So (by first | exact rfl | assumption | exact trivial | omega) (req_So (fun h => h)))))))))))))))))))))))

theorem ok_plist_List : SpecOK Try.prog elTT 37 (sp_plist_List m_plist_List) := by
  refine spec_of_exF (cfg := (cfg_plist_List m_plist_of m_plist_list_pages)) (cfg_ok rfl rfl rfl) (sig_cons ok_plist_of (sig_cons ok_plist_list_pages sig_nil)) (fn := Try.f37) (by kernel_rfl) (by kernel_rfl) (by kernel_rfl) ?_
  intro args H K h
  change tr_plist_List m_plist_List args H K at h
  unfold tr_plist_List at h
  replace h := aC_el h
  obtain ⟨a0, _, rfl, h⟩ := h
  replace h := aC_el h
  obtain ⟨a1, _, rfl, h⟩ := h
  replace h := aC_el h
  obtain ⟨a2, _, rfl, h⟩ := h
  replace h := aC_el h
  obtain ⟨a3, _, rfl, h⟩ := h
  replace h := aN_el h
  obtain ⟨rfl, h⟩ := h
  replace h := aPtr_el h
  obtain ⟨rfl, h⟩ := h
  replace h := aAgg_el h
  obtain ⟨c1, rfl, h⟩ := h
  replace h := d_layout_Layout_el h
  obtain ⟨l2, rfl, h⟩ := h
  replace h := aInt_el h
  obtain ⟨c, rfl, h⟩ := h
  replace h := aInt_el h
  obtain ⟨f, rfl, h⟩ := h
  replace h := aC_el h
  obtain ⟨b0, _, rfl, h⟩ := h
  replace h := aC_el h
  obtain ⟨b1, _, rfl, h⟩ := h
  replace h := aN_el h
  obtain ⟨rfl, h⟩ := h
  replace h := bView_el h
  obtain ⟨ws, cur, xs, rfl, h⟩ := h
  replace h := bRow_el h
  obtain ⟨(l : List Int), rfl, h⟩ := h
  obtain ⟨rfl, hx, h⟩ := h
  refine Eq.mpr (nf_plist_List m_plist_of m_plist_list_pages ws cur xs l2 c f K) ?_
  unfold m_plist_List at h
  revert h
  exact and_So (by first | exact rfl | assumption | exact trivial | omega) (and_So (by first | exact rfl | assumption | exact trivial | omega) (bind_So fun y0 => br_So (fun h => h) (and_So (by first | exact rfl | assumption | exact trivial | omega) (and_So (by first | exact rfl | assumption | exact trivial | omega) (bind_So fun y1 => fun h => h)))))

theorem lpok_plist_First_L1 (ws : List Int) (cur : List Int) (xs : List Value) (l2 : T_layout_Layout) (c : Int) (f : Int) (K : V → Heap → Prop) (hx : xs.length ≤ 2) : So (lp_plist_First_L1 (ws.length) (cur) (l2) (c) f) (fun (x : Int) => K (vi (x)) [.pk 0 [ws, cur] xs [.row 1], .row 0 ws true]) → Loop (cfg_plist_First m_class_Slots m_layout_Layout_Head) (⟨25, 2⟩ : Cx) (at_ (bodyOf Try.f45) [1, 0, 1, 0, 0]) (mkEnv [(0, .ptr 0 0), (2, vi (c)), (4, .ptr 2 0), (7, vi (f))]) [.pk 0 [ws, cur] (xs) [.row 1], .row 0 (ws : List (Int)) Bool.true, .cells 28 (e_layout_Layout l2)] (contK (cfg_plist_First m_class_Slots m_layout_Layout_Head) (⟨25, 2⟩ : Cx) (bodyOf Try.f45) [1, 0, 1, 0] (retK (cfg_plist_First m_class_Slots m_layout_Layout_Head) Try.f45 2 K)) := by
  refine loopK_So (fun (s_ : Int) => (mkEnv [(0, .ptr 0 0), (2, vi (c)), (4, .ptr 2 0), (7, vi ((s_)))])) (fun (s_ : Int) => [.pk 0 [ws, cur] (xs) [.row 1], .row 0 (ws : List (Int)) Bool.true, .cells 28 (e_layout_Layout l2)]) (fun (x : Int) => K (vi (x)) [.pk 0 [ws, cur] xs [.row 1], .row 0 ws true]) ?_ f
  intro s_ J1 h
  clear f
  revert h; revert s_; intro f h
  refine Eq.mpr (nf_plist_First_L1 m_class_Slots m_layout_Layout_Head ws cur xs l2 c f K J1) ?_
  have h : So (sb_plist_First_L1 (ws.length) (cur) (l2) (c) f) _ := h
  unfold sb_plist_First_L1 at h
  revert h
  exact bind_So fun y0 => br_So (bind_So fun y1 => and_So (by first | exact rfl | assumption | exact trivial | omega) (and_So (by first | exact rfl | assumption | exact trivial | omega) (req_So (br_So (fun h => h) (fun h => h))))) (fun h => h)

theorem ok_plist_First : SpecOK Try.prog elTT 45 (sp_plist_First m_plist_First) := by
  refine spec_of_exF (cfg := (cfg_plist_First m_class_Slots m_layout_Layout_Head)) (cfg_ok rfl rfl rfl) (sig_cons ok_class_Slots (sig_cons ok_layout_Layout_Head (sig_cons rd_ok sig_nil))) (fn := Try.f45) (by kernel_rfl) (by kernel_rfl) (by kernel_rfl) ?_
  intro args H K h
  change tr_plist_First m_plist_First args H K at h
  unfold tr_plist_First at h
  replace h := aC_el h
  obtain ⟨a0, _, rfl, h⟩ := h
  replace h := aC_el h
  obtain ⟨a1, _, rfl, h⟩ := h
  replace h := aC_el h
  obtain ⟨a2, _, rfl, h⟩ := h
  replace h := aN_el h
  obtain ⟨rfl, h⟩ := h
  replace h := aPtr_el h
  obtain ⟨rfl, h⟩ := h
  replace h := aAgg_el h
  obtain ⟨c1, rfl, h⟩ := h
  replace h := d_layout_Layout_el h
  obtain ⟨l2, rfl, h⟩ := h
  replace h := aInt_el h
  obtain ⟨c, rfl, h⟩ := h
  replace h := aC_el h
  obtain ⟨b0, _, rfl, h⟩ := h
  replace h := aC_el h
  obtain ⟨b1, _, rfl, h⟩ := h
  replace h := aN_el h
  obtain ⟨rfl, h⟩ := h
  replace h := bView_el h
  obtain ⟨ws, cur, xs, rfl, h⟩ := h
  replace h := bRow_el h
  obtain ⟨(l : List Int), rfl, h⟩ := h
  obtain ⟨rfl, hx, h⟩ := h
  refine Eq.mpr (nf_plist_First m_class_Slots m_layout_Layout_Head ws cur xs l2 c K) ?_
  unfold m_plist_First at h
  revert h
  exact lpok_plist_First_L1 ws cur xs l2 c (1) K hx

end Go.Rx
end

section
/- Contracts. -/
namespace Go.Rx
open Go.Proofs
set_option maxRecDepth 100000
set_option maxHeartbeats 4000000
/-! assart/assartref10.there -/
def tr_ref10_there (m_ : T_assartref02_Layout → Int → Int → Int → Option (Bool)) (args : List V) (H : Heap) (K : V → Heap → Prop) : Prop :=
  aC args fun a0 r => aC r fun a1 r => aC r fun a2 r => aC r fun a3 r => aN r <| aAgg a0 fun c0 => d_assartref02_Layout c0 fun l2 => aInt a1 fun p => aInt a2 fun c => aInt a3 fun f => aN H <| So (m_ l2 p c f) fun x => K (vb (x)) []
def sp_ref10_there (m_ : T_assartref02_Layout → Int → Int → Int → Option (Bool)) : Spec := ⟨tr_ref10_there m_, (true : Bool)⟩

/-! assart/assartref10.List -/
def tr_ref10_List (m_ : T_assartref02_Layout → Int → Int → (List Int) → Option ((List Int))) (args : List V) (H : Heap) (K : V → Heap → Prop) : Prop :=
  aC args fun a0 r => aC r fun a1 r => aC r fun a2 r => aC r fun a3 r => aN r <| aAgg a0 fun c0 => d_assartref02_Layout c0 fun l2 => aRow 0 a1 <| aInt a2 fun c => aInt a3 fun f => aC H fun b0 r => aN r <| bRow 0 true b0 fun (w : List Int) => So (m_ l2 c f w) fun x => K (.row 1) [.row 0 w true, .row 0 (x) false]
def sp_ref10_List (m_ : T_assartref02_Layout → Int → Int → (List Int) → Option ((List Int))) : Spec := ⟨tr_ref10_List m_, (true : Bool)⟩

/-! assart/assartref10.lay -/
def tr_ref10_lay (m_ : T_assartref02_Layout → Int → Int → (List Int) → (List Int) → Option ((List Int))) (args : List V) (H : Heap) (K : V → Heap → Prop) : Prop :=
  aC args fun a0 r => aC r fun a1 r => aC r fun a2 r => aC r fun a3 r => aC r fun a4 r => aN r <| aAgg a0 fun c0 => d_assartref02_Layout c0 fun l2 => aRow 0 a1 <| aInt a2 fun c => aInt a3 fun f => aRow 1 a4 <| aC H fun b0 r => aC r fun b1 r => aN r <| bRow 0 false b0 fun (w : List Int) => bRow 0 true b1 fun (pages : List Int) => So (m_ l2 c f w pages) fun x => K (.tup []) [.row 0 (x) false, .row 0 pages true]
def sp_ref10_lay (m_ : T_assartref02_Layout → Int → Int → (List Int) → (List Int) → Option ((List Int))) : Spec := ⟨tr_ref10_lay m_, (⟨true, fun i => Nat.beq i 0⟩ : RO)⟩

/-! assart/assartref10.Link -/
def tr_ref10_Link (m_ : T_assartref02_Layout → Int → Int → Int → (List Int) → Option (Bool × (List Int))) (args : List V) (H : Heap) (K : V → Heap → Prop) : Prop :=
  aC args fun a0 r => aC r fun a1 r => aC r fun a2 r => aC r fun a3 r => aC r fun a4 r => aN r <| aAgg a0 fun c0 => d_assartref02_Layout c0 fun l2 => aRow 0 a1 <| aInt a2 fun p => aInt a3 fun c => aInt a4 fun f => aC H fun b0 r => aN r <| bRow 0 false b0 fun (w : List Int) => So (m_ l2 p c f w) fun x => K (vb (x.1)) [.row 0 (x.2) false]
def sp_ref10_Link (m_ : T_assartref02_Layout → Int → Int → Int → (List Int) → Option (Bool × (List Int))) : Spec := ⟨tr_ref10_Link m_, (⟨true, fun i => Nat.beq i 0⟩ : RO)⟩

/-! assart/assartref10.Unlink -/
def tr_ref10_Unlink (m_ : T_assartref02_Layout → Int → Int → Int → (List Int) → Option (Bool × (List Int))) (args : List V) (H : Heap) (K : V → Heap → Prop) : Prop :=
  aC args fun a0 r => aC r fun a1 r => aC r fun a2 r => aC r fun a3 r => aC r fun a4 r => aN r <| aAgg a0 fun c0 => d_assartref02_Layout c0 fun l2 => aRow 0 a1 <| aInt a2 fun p => aInt a3 fun c => aInt a4 fun f => aC H fun b0 r => aN r <| bRow 0 false b0 fun (w : List Int) => So (m_ l2 p c f w) fun x => K (vb (x.1)) [.row 0 (x.2) false]
def sp_ref10_Unlink (m_ : T_assartref02_Layout → Int → Int → Int → (List Int) → Option (Bool × (List Int))) : Spec := ⟨tr_ref10_Unlink m_, (⟨true, fun i => Nat.beq i 0⟩ : RO)⟩

/-! assart/assartref10.First -/
def tr_ref10_First (m_ : T_assartref02_Layout → Int → (List Int) → Option (Int)) (args : List V) (H : Heap) (K : V → Heap → Prop) : Prop :=
  aC args fun a0 r => aC r fun a1 r => aC r fun a2 r => aN r <| aAgg a0 fun c0 => d_assartref02_Layout c0 fun l2 => aRow 0 a1 <| aInt a2 fun c => aC H fun b0 r => aN r <| bRow 0 true b0 fun (w : List Int) => So (m_ l2 c w) fun x => K (vi (x)) [.row 0 w true]
def sp_ref10_First (m_ : T_assartref02_Layout → Int → (List Int) → Option (Int)) : Spec := ⟨tr_ref10_First m_, (true : Bool)⟩

noncomputable def cfg_ref10_there (m_ref02_Layout_Head : T_assartref02_Layout → Int → Int → Option (Int)) : Cfg := { cfgB with
  sigs := (sigC 96 (sp_ref02_Layout_Head m_ref02_Layout_Head) sigN) }

noncomputable def cfg_ref10_List (m_ref02_Layout_Head : T_assartref02_Layout → Int → Int → Option (Int)) (m_ref02_Layout_Next : T_assartref02_Layout → Int → Option (Int)) : Cfg := { cfgB with
  sigs := (sigC 96 (sp_ref02_Layout_Head m_ref02_Layout_Head) (sigC 97 (sp_ref02_Layout_Next m_ref02_Layout_Next) sigN)),
  keep := fun r => match r with | 7 => some [(1, some 0), (4, none), (10, some 0), (11, none), (12, none)] | _ => none }

noncomputable def cfg_ref10_lay (m_ref02_Layout_Head : T_assartref02_Layout → Int → Int → Option (Int)) (m_ref02_Layout_Next : T_assartref02_Layout → Int → Option (Int)) (m_ref02_Layout_Prev : T_assartref02_Layout → Int → Option (Int)) : Cfg := { cfgB with
  sigs := (sigC 96 (sp_ref02_Layout_Head m_ref02_Layout_Head) (sigC 97 (sp_ref02_Layout_Next m_ref02_Layout_Next) (sigC 136 (sp_ref02_Layout_Prev m_ref02_Layout_Prev) sigN))),
  keep := fun r => match r with | 3 => some [(1, some 0), (2, none), (3, none), (4, some 0), (5, none), (10, none)] | _ => none,
  plan := fun r => match r with | 10 => some ([0, 1, 2, 4, 5, 6, 7, 8, 9, 3, 10, 11], 1) | 12 => some ([0, 1, 2, 4, 5, 6, 7, 8, 9, 3, 10, 11], 1) | _ => none }

noncomputable def cfg_ref10_Link (m_ref10_there : T_assartref02_Layout → Int → Int → Int → Option (Bool)) (m_ref10_List : T_assartref02_Layout → Int → Int → (List Int) → Option ((List Int))) (m_ref10_lay : T_assartref02_Layout → Int → Int → (List Int) → (List Int) → Option ((List Int))) : Cfg := { cfgB with
  sigs := (sigC 134 (sp_ref10_there m_ref10_there) (sigC 48 (sp_ref10_List m_ref10_List) (sigC 135 (sp_ref10_lay m_ref10_lay) sigN))),
  planT := fun r => match r with | 3 => some ((chainT [0, 1, 2, 3, 4, 6, 7, 8, 9] (.alt (chainT [5, 10, 11, 12] .fin) (chainT [10, 5, 11, 12] .fin))), 17) | _ => none }

noncomputable def cfg_ref10_Unlink (m_ref10_there : T_assartref02_Layout → Int → Int → Int → Option (Bool)) (m_ref10_List : T_assartref02_Layout → Int → Int → (List Int) → Option ((List Int))) (m_ref02_Layout_Next : T_assartref02_Layout → Int → Option (Int)) (m_ref02_Layout_Prev : T_assartref02_Layout → Int → Option (Int)) (m_ref10_lay : T_assartref02_Layout → Int → Int → (List Int) → (List Int) → Option ((List Int))) : Cfg := { cfgB with
  sigs := (sigC 134 (sp_ref10_there m_ref10_there) (sigC 48 (sp_ref10_List m_ref10_List) (sigC 97 (sp_ref02_Layout_Next m_ref02_Layout_Next) (sigC 136 (sp_ref02_Layout_Prev m_ref02_Layout_Prev) (sigC 135 (sp_ref10_lay m_ref10_lay) sigN))))),
  keep := fun r => match r with | 6 => some [(1, some 0), (2, none), (3, none), (4, none), (5, none), (11, some 0), (12, some 0), (13, none)] | _ => none }

noncomputable def cfg_ref10_First (m_ref10_List : T_assartref02_Layout → Int → Int → (List Int) → Option ((List Int))) : Cfg := { cfgB with
  sigs := (sigC 48 (sp_ref10_List m_ref10_List) sigN),
  keep := fun r => match r with | 2 => some [(1, some 0), (2, none), (3, none), (7, none)] | _ => none }

theorem nf_ref10_there (m_ref02_Layout_Head : T_assartref02_Layout → Int → Int → Option (Int)) (l2 : T_assartref02_Layout) (p : Int) (c : Int) (f : Int) (K : V → Heap → Prop) : (exF (cfg_ref10_there m_ref02_Layout_Head) Try.f134 [.agg (e_assartref02_Layout l2), vi p, vi c, vi f] [] K) = (
    br (Decidable.decide (p ≥ 0)) (br (Decidable.decide (p < T_api_Config.Pages (T_assartref02_Layout.C l2))) (So (m_ref02_Layout_Head l2 c f) (fun (y0 : Int) => (K (vb (y0 != 0)) []))) (K (vb (Bool.false)) [])) (K (vb (Bool.false)) [])) := by
  kernel_rfl

theorem nf_ref10_List_L1 (m_ref02_Layout_Head : T_assartref02_Layout → Int → Int → Option (Int)) (m_ref02_Layout_Next : T_assartref02_Layout → Int → Option (Int)) (l2 : T_assartref02_Layout) (c : Int) (f : Int) (w : List Int) (atv : Int) (n : Int) (w2 : List Int) (K : V → Heap → Prop) (J1 : Env → Heap → Prop) : (ex (cfg_ref10_List m_ref02_Layout_Head m_ref02_Layout_Next) (⟨47, 1⟩ : Cx) (at_ (bodyOf Try.f48) [1, 1, 1, 1, 1, 0, 1, 0, 0]) (mkEnv [(1, .row 0), (4, .ptr 1 0), (10, .row 2), (11, vi (atv)), (12, vi (n))]) [.row 0 (w : List (Int)) Bool.true, .cells 30 (e_api_Config (Go.Rx.T_assartref02_Layout.C l2)), .row 0 (w2 : List (Int)) Bool.false] (roundK (cfg_ref10_List m_ref02_Layout_Head m_ref02_Layout_Next) (⟨47, 1⟩ : Cx) (at_ (bodyOf Try.f48) [1, 1, 1, 1, 1, 0, 1, 0, 0]) (contK (cfg_ref10_List m_ref02_Layout_Head m_ref02_Layout_Next) (⟨47, 1⟩ : Cx) (bodyOf Try.f48) [1, 1, 1, 1, 1, 0, 1, 0] (retK (cfg_ref10_List m_ref02_Layout_Head m_ref02_Layout_Next) Try.f48 1 K)) J1)) = (
    br (Decidable.decide (n < T_api_Config.Pages (T_assartref02_Layout.C l2))) (br (Decidable.decide (atv > 0)) (Req (Decidable.decide (List.length w2 + 1 ≤ 1048576)) (So (m_ref02_Layout_Next l2 (IntKind.wrap IntKind.i64 (atv - 1))) (fun (y0 : Int) => (Req (inR y0 (List.length w)) (Req (inR (offs y0 0) (List.length w)) (J1 (mkEnv [(1, .row 0), (4, .ptr 1 0), (10, .row 2), (11, vi (List.getD w (Int.toNat (offs y0 0)) 0)), (12, vi (IntKind.wrap IntKind.i64 (n + 1)))]) [.row 0 (w : List (Int)) Bool.true, .cells 30 (e_api_Config (T_assartref02_Layout.C l2)), .row 0 (w2 ++ [IntKind.wrap IntKind.i64 (atv - 1)] : List (Int)) Bool.false])))))) (K (.row 1) [.row 0 (w : List (Int)) Bool.true, .row 0 (w2 : List (Int)) Bool.false])) (K (.row 1) [.row 0 (w : List (Int)) Bool.true, .row 0 (w2 : List (Int)) Bool.false])) := by
  kernel_rfl

theorem nf_ref10_List (m_ref02_Layout_Head : T_assartref02_Layout → Int → Int → Option (Int)) (m_ref02_Layout_Next : T_assartref02_Layout → Int → Option (Int)) (l2 : T_assartref02_Layout) (c : Int) (f : Int) (w : List Int) (K : V → Heap → Prop) : (exF (cfg_ref10_List m_ref02_Layout_Head m_ref02_Layout_Next) Try.f48 [.agg (e_assartref02_Layout l2), .row 0, vi c, vi f] [.row 0 w true] K) = (
    So (m_ref02_Layout_Head l2 c f) (fun (y0 : Int) => (br (y0 == 0) (K (.row 1) [.row 0 (w : List (Int)) Bool.true, .row 0 ([] : List (Int)) Bool.false]) (Req (inR y0 (List.length w)) (Req (inR (offs y0 0) (List.length w)) (Loop (cfg_ref10_List m_ref02_Layout_Head m_ref02_Layout_Next) (⟨47, 1⟩ : Cx) (at_ (bodyOf Try.f48) [1, 1, 1, 1, 1, 0, 1, 0, 0]) (mkEnv [(1, .row 0), (4, .ptr 1 0), (10, .row 2), (11, vi (List.getD w (Int.toNat (offs y0 0)) 0)), (12, vi (0))]) [.row 0 (w : List (Int)) Bool.true, .cells 30 (e_api_Config (T_assartref02_Layout.C l2)), .row 0 ([] : List (Int)) Bool.false] (contK (cfg_ref10_List m_ref02_Layout_Head m_ref02_Layout_Next) (⟨47, 1⟩ : Cx) (bodyOf Try.f48) [1, 1, 1, 1, 1, 0, 1, 0] (retK (cfg_ref10_List m_ref02_Layout_Head m_ref02_Layout_Next) Try.f48 1 K)))))))) := by
  kernel_rfl

theorem nf_ref10_lay_L1 (m_ref02_Layout_Head : T_assartref02_Layout → Int → Int → Option (Int)) (m_ref02_Layout_Next : T_assartref02_Layout → Int → Option (Int)) (m_ref02_Layout_Prev : T_assartref02_Layout → Int → Option (Int)) (l2 : T_assartref02_Layout) (c : Int) (f : Int) (w : List Int) (pages : List Int) (iv : Int) (w2 : List Int) (K : V → Heap → Prop) (J1 : Env → Heap → Prop) : (ex (cfg_ref10_lay m_ref02_Layout_Head m_ref02_Layout_Next m_ref02_Layout_Prev) (⟨75, 2⟩ : Cx) (at_ (bodyOf Try.f135) [1, 1, 1, 0, 0]) (mkEnv [(1, .row 0), (2, vi (c)), (3, vi (f)), (4, .row 1), (5, .ptr 2 0), (10, vi (iv))]) [.row 0 (w2 : List (Int)) Bool.false, .row 0 (pages : List (Int)) Bool.true, .cells 30 (e_api_Config (Go.Rx.T_assartref02_Layout.C l2))] (roundK (cfg_ref10_lay m_ref02_Layout_Head m_ref02_Layout_Next m_ref02_Layout_Prev) (⟨75, 2⟩ : Cx) (at_ (bodyOf Try.f135) [1, 1, 1, 0, 0]) (contK (cfg_ref10_lay m_ref02_Layout_Head m_ref02_Layout_Next m_ref02_Layout_Prev) (⟨75, 2⟩ : Cx) (bodyOf Try.f135) [1, 1, 1, 0] (retK (cfg_ref10_lay m_ref02_Layout_Head m_ref02_Layout_Next m_ref02_Layout_Prev) Try.f135 2 K)) J1)) = (
    br (Decidable.decide (iv < (↑(List.length pages) : Int))) (Req (inR iv (List.length pages)) (Req (inR (offs iv 0) (List.length pages)) (So (m_ref02_Layout_Next l2 (List.getD pages (Int.toNat (offs iv 0)) 0)) (fun (y0 : Int) => (Req (inR y0 (List.length w2)) (Req (inR (offs y0 0) (List.length w2)) (So (m_ref02_Layout_Prev l2 (List.getD pages (Int.toNat (offs iv 0)) 0)) (fun (y1 : Int) => (Req (inR y1 (List.length (List.set w2 (Int.toNat (offs y0 0)) 0))) (Req (inR (offs y1 0) (List.length (List.set w2 (Int.toNat (offs y0 0)) 0))) (br (iv == 0) (So (m_ref02_Layout_Head l2 c f) (fun (y2 : Int) => (Req (inR y2 (List.length (List.set (List.set w2 (Int.toNat (offs y0 0)) 0) (Int.toNat (offs y1 0)) 0))) (Req (inR (offs y2 0) (List.length (List.set (List.set w2 (Int.toNat (offs y0 0)) 0) (Int.toNat (offs y1 0)) 0))) (br (Decidable.decide (IntKind.wrap IntKind.i64 (iv + 1) < (↑(List.length pages) : Int))) (Req (inR (IntKind.wrap IntKind.i64 (iv + 1)) (List.length pages)) (Req (inR (offs (IntKind.wrap IntKind.i64 (iv + 1)) 0) (List.length pages)) (So (m_ref02_Layout_Next l2 (List.getD pages (Int.toNat (offs iv 0)) 0)) (fun (y3 : Int) => (Req (inR y3 (List.length (List.set (List.set (List.set w2 (Int.toNat (offs y0 0)) 0) (Int.toNat (offs y1 0)) 0) (Int.toNat (offs y2 0)) (IntKind.wrap IntKind.i64 (List.getD pages (Int.toNat (offs iv 0)) 0 + 1))))) (Req (inR (offs y3 0) (List.length (List.set (List.set (List.set w2 (Int.toNat (offs y0 0)) 0) (Int.toNat (offs y1 0)) 0) (Int.toNat (offs y2 0)) (IntKind.wrap IntKind.i64 (List.getD pages (Int.toNat (offs iv 0)) 0 + 1))))) (J1 (mkEnv [(1, .row 0), (2, vi (c)), (3, vi (f)), (4, .row 1), (5, .ptr 2 0), (10, vi (IntKind.wrap IntKind.i64 (iv + 1)))]) [.row 0 (List.set (List.set (List.set (List.set w2 (Int.toNat (offs y0 0)) 0) (Int.toNat (offs y1 0)) 0) (Int.toNat (offs y2 0)) (IntKind.wrap IntKind.i64 (List.getD pages (Int.toNat (offs iv 0)) 0 + 1))) (Int.toNat (offs y3 0)) (IntKind.wrap IntKind.i64 (List.getD pages (Int.toNat (offs (IntKind.wrap IntKind.i64 (iv + 1)) 0)) 0 + 1)) : List (Int)) Bool.false, .row 0 (pages : List (Int)) Bool.true, .cells 30 (e_api_Config (T_assartref02_Layout.C l2))]))))))) (J1 (mkEnv [(1, .row 0), (2, vi (c)), (3, vi (f)), (4, .row 1), (5, .ptr 2 0), (10, vi (IntKind.wrap IntKind.i64 (iv + 1)))]) [.row 0 (List.set (List.set (List.set w2 (Int.toNat (offs y0 0)) 0) (Int.toNat (offs y1 0)) 0) (Int.toNat (offs y2 0)) (IntKind.wrap IntKind.i64 (List.getD pages (Int.toNat (offs iv 0)) 0 + 1)) : List (Int)) Bool.false, .row 0 (pages : List (Int)) Bool.true, .cells 30 (e_api_Config (T_assartref02_Layout.C l2))])))))) (Req (inR (IntKind.wrap IntKind.i64 (iv - 1)) (List.length pages)) (Req (inR (offs (IntKind.wrap IntKind.i64 (iv - 1)) 0) (List.length pages)) (So (m_ref02_Layout_Prev l2 (List.getD pages (Int.toNat (offs iv 0)) 0)) (fun (y4 : Int) => (Req (inR y4 (List.length (List.set (List.set w2 (Int.toNat (offs y0 0)) 0) (Int.toNat (offs y1 0)) 0))) (Req (inR (offs y4 0) (List.length (List.set (List.set w2 (Int.toNat (offs y0 0)) 0) (Int.toNat (offs y1 0)) 0))) (br (Decidable.decide (IntKind.wrap IntKind.i64 (iv + 1) < (↑(List.length pages) : Int))) (Req (inR (IntKind.wrap IntKind.i64 (iv + 1)) (List.length pages)) (Req (inR (offs (IntKind.wrap IntKind.i64 (iv + 1)) 0) (List.length pages)) (So (m_ref02_Layout_Next l2 (List.getD pages (Int.toNat (offs iv 0)) 0)) (fun (y5 : Int) => (Req (inR y5 (List.length (List.set (List.set (List.set w2 (Int.toNat (offs y0 0)) 0) (Int.toNat (offs y1 0)) 0) (Int.toNat (offs y4 0)) (IntKind.wrap IntKind.i64 (List.getD pages (Int.toNat (offs (IntKind.wrap IntKind.i64 (iv - 1)) 0)) 0 + 1))))) (Req (inR (offs y5 0) (List.length (List.set (List.set (List.set w2 (Int.toNat (offs y0 0)) 0) (Int.toNat (offs y1 0)) 0) (Int.toNat (offs y4 0)) (IntKind.wrap IntKind.i64 (List.getD pages (Int.toNat (offs (IntKind.wrap IntKind.i64 (iv - 1)) 0)) 0 + 1))))) (J1 (mkEnv [(1, .row 0), (2, vi (c)), (3, vi (f)), (4, .row 1), (5, .ptr 2 0), (10, vi (IntKind.wrap IntKind.i64 (iv + 1)))]) [.row 0 (List.set (List.set (List.set (List.set w2 (Int.toNat (offs y0 0)) 0) (Int.toNat (offs y1 0)) 0) (Int.toNat (offs y4 0)) (IntKind.wrap IntKind.i64 (List.getD pages (Int.toNat (offs (IntKind.wrap IntKind.i64 (iv - 1)) 0)) 0 + 1))) (Int.toNat (offs y5 0)) (IntKind.wrap IntKind.i64 (List.getD pages (Int.toNat (offs (IntKind.wrap IntKind.i64 (iv + 1)) 0)) 0 + 1)) : List (Int)) Bool.false, .row 0 (pages : List (Int)) Bool.true, .cells 30 (e_api_Config (T_assartref02_Layout.C l2))]))))))) (J1 (mkEnv [(1, .row 0), (2, vi (c)), (3, vi (f)), (4, .row 1), (5, .ptr 2 0), (10, vi (IntKind.wrap IntKind.i64 (iv + 1)))]) [.row 0 (List.set (List.set (List.set w2 (Int.toNat (offs y0 0)) 0) (Int.toNat (offs y1 0)) 0) (Int.toNat (offs y4 0)) (IntKind.wrap IntKind.i64 (List.getD pages (Int.toNat (offs (IntKind.wrap IntKind.i64 (iv - 1)) 0)) 0 + 1)) : List (Int)) Bool.false, .row 0 (pages : List (Int)) Bool.true, .cells 30 (e_api_Config (T_assartref02_Layout.C l2))]))))))))))))))))))) (K (.tup []) [.row 0 (w2 : List (Int)) Bool.false, .row 0 (pages : List (Int)) Bool.true])) := by
  kernel_rfl

theorem nf_ref10_lay (m_ref02_Layout_Head : T_assartref02_Layout → Int → Int → Option (Int)) (m_ref02_Layout_Next : T_assartref02_Layout → Int → Option (Int)) (m_ref02_Layout_Prev : T_assartref02_Layout → Int → Option (Int)) (l2 : T_assartref02_Layout) (c : Int) (f : Int) (w : List Int) (pages : List Int) (K : V → Heap → Prop) : (exF (cfg_ref10_lay m_ref02_Layout_Head m_ref02_Layout_Next m_ref02_Layout_Prev) Try.f135 [.agg (e_assartref02_Layout l2), .row 0, vi c, vi f, .row 1] [.row 0 w false, .row 0 pages true] K) = (
    So (m_ref02_Layout_Head l2 c f) (fun (y0 : Int) => (Req (inR y0 (List.length w)) (Req (inR (offs y0 0) (List.length w)) (Loop (cfg_ref10_lay m_ref02_Layout_Head m_ref02_Layout_Next m_ref02_Layout_Prev) (⟨75, 2⟩ : Cx) (at_ (bodyOf Try.f135) [1, 1, 1, 0, 0]) (mkEnv [(1, .row 0), (2, vi (c)), (3, vi (f)), (4, .row 1), (5, .ptr 2 0), (10, vi (0))]) [.row 0 (List.set w (Int.toNat (offs y0 0)) 0 : List (Int)) Bool.false, .row 0 (pages : List (Int)) Bool.true, .cells 30 (e_api_Config (T_assartref02_Layout.C l2))] (contK (cfg_ref10_lay m_ref02_Layout_Head m_ref02_Layout_Next m_ref02_Layout_Prev) (⟨75, 2⟩ : Cx) (bodyOf Try.f135) [1, 1, 1, 0] (retK (cfg_ref10_lay m_ref02_Layout_Head m_ref02_Layout_Next m_ref02_Layout_Prev) Try.f135 2 K))))))) := by
  kernel_rfl

theorem nf_ref10_Link (m_ref10_there : T_assartref02_Layout → Int → Int → Int → Option (Bool)) (m_ref10_List : T_assartref02_Layout → Int → Int → (List Int) → Option ((List Int))) (m_ref10_lay : T_assartref02_Layout → Int → Int → (List Int) → (List Int) → Option ((List Int))) (l2 : T_assartref02_Layout) (p : Int) (c : Int) (f : Int) (w : List Int) (K : V → Heap → Prop) : (exF (cfg_ref10_Link m_ref10_there m_ref10_List m_ref10_lay) Try.f94 [.agg (e_assartref02_Layout l2), .row 0, vi p, vi c, vi f] [.row 0 w false] K) = (
    So (m_ref10_there l2 p c f) (fun (y0 : Bool) => (br (!y0) (K (vb (Bool.false)) [.row 0 (w : List (Int)) Bool.false]) (((So (m_ref10_List l2 c f w) (fun (y1 : List Int) => (Req (Decidable.decide (1 + List.length y1 ≤ 1048576)) (So (m_ref10_lay l2 c f w (p :: y1)) (fun (y2 : List Int) => (K (vb (Bool.true)) [.row 0 (y2 : List (Int)) Bool.false])))))) ∧ (So (m_ref10_List l2 c f w) (fun (y3 : List Int) => (Req (Decidable.decide (1 + List.length y3 ≤ 1048576)) (So (m_ref10_lay l2 c f w (p :: y3)) (fun (y4 : List Int) => (K (vb (Bool.true)) [.row 0 (y4 : List (Int)) Bool.false]))))))))))) := by
  kernel_rfl

theorem nf_ref10_Unlink_L1 (m_ref10_there : T_assartref02_Layout → Int → Int → Int → Option (Bool)) (m_ref10_List : T_assartref02_Layout → Int → Int → (List Int) → Option ((List Int))) (m_ref02_Layout_Next : T_assartref02_Layout → Int → Option (Int)) (m_ref02_Layout_Prev : T_assartref02_Layout → Int → Option (Int)) (m_ref10_lay : T_assartref02_Layout → Int → Int → (List Int) → (List Int) → Option ((List Int))) (l2 : T_assartref02_Layout) (p : Int) (c : Int) (f : Int) (w : List Int) (iv : Int) (w2 : List Int) (w3 : List Int) (K : V → Heap → Prop) (J1 : Env → Heap → Prop) : (ex (cfg_ref10_Unlink m_ref10_there m_ref10_List m_ref02_Layout_Next m_ref02_Layout_Prev m_ref10_lay) (⟨65, 1⟩ : Cx) (at_ (bodyOf Try.f95) [1, 1, 1, 1, 0, 1, 0, 0]) (mkEnv [(1, .row 0), (2, vi (p)), (3, vi (c)), (4, vi (f)), (5, .ptr 1 0), (11, .row 2), (12, .row 3), (13, vi (iv))]) [.row 0 (w : List (Int)) Bool.false, .cells 30 (e_api_Config (Go.Rx.T_assartref02_Layout.C l2)), .row 0 (w2 : List (Int)) Bool.false, .row 0 (w3 : List (Int)) Bool.false] (roundK (cfg_ref10_Unlink m_ref10_there m_ref10_List m_ref02_Layout_Next m_ref02_Layout_Prev m_ref10_lay) (⟨65, 1⟩ : Cx) (at_ (bodyOf Try.f95) [1, 1, 1, 1, 0, 1, 0, 0]) (contK (cfg_ref10_Unlink m_ref10_there m_ref10_List m_ref02_Layout_Next m_ref02_Layout_Prev m_ref10_lay) (⟨65, 1⟩ : Cx) (bodyOf Try.f95) [1, 1, 1, 1, 0, 1, 0] (retK (cfg_ref10_Unlink m_ref10_there m_ref10_List m_ref02_Layout_Next m_ref02_Layout_Prev m_ref10_lay) Try.f95 1 K)) J1)) = (
    br (Decidable.decide (iv < (↑(List.length w3) : Int))) (Req (inR iv (List.length w3)) (Req (inR (offs iv 0) (List.length w3)) (br (List.getD w3 (Int.toNat (offs iv 0)) 0 != p) (Req (inR iv (List.length w3)) (Req (inR (offs iv 0) (List.length w3)) (Req (Decidable.decide (List.length w2 + 1 ≤ 1048576)) (J1 (mkEnv [(1, .row 0), (2, vi (p)), (3, vi (c)), (4, vi (f)), (5, .ptr 1 0), (11, .row 2), (12, .row 3), (13, vi (IntKind.wrap IntKind.i64 (iv + 1)))]) [.row 0 (w : List (Int)) Bool.false, .cells 30 (e_api_Config (T_assartref02_Layout.C l2)), .row 0 (w2 ++ [List.getD w3 (Int.toNat (offs iv 0)) 0] : List (Int)) Bool.false, .row 0 (w3 : List (Int)) Bool.false])))) (J1 (mkEnv [(1, .row 0), (2, vi (p)), (3, vi (c)), (4, vi (f)), (5, .ptr 1 0), (11, .row 2), (12, .row 3), (13, vi (IntKind.wrap IntKind.i64 (iv + 1)))]) [.row 0 (w : List (Int)) Bool.false, .cells 30 (e_api_Config (T_assartref02_Layout.C l2)), .row 0 (w2 : List (Int)) Bool.false, .row 0 (w3 : List (Int)) Bool.false])))) (br ((↑(List.length w2) : Int) == (↑(List.length w3) : Int)) (K (vb (Bool.false)) [.row 0 (w : List (Int)) Bool.false]) (So (m_ref02_Layout_Next l2 p) (fun (y0 : Int) => (Req (inR y0 (List.length w)) (Req (inR (offs y0 0) (List.length w)) (So (m_ref02_Layout_Prev l2 p) (fun (y1 : Int) => (Req (inR y1 (List.length (List.set w (Int.toNat (offs y0 0)) 0))) (Req (inR (offs y1 0) (List.length (List.set w (Int.toNat (offs y0 0)) 0))) (So (m_ref10_lay l2 c f (List.set (List.set w (Int.toNat (offs y0 0)) 0) (Int.toNat (offs y1 0)) 0) w2) (fun (y2 : List Int) => (K (vb (Bool.true)) [.row 0 (y2 : List (Int)) Bool.false]))))))))))))) := by
  kernel_rfl

theorem nf_ref10_Unlink (m_ref10_there : T_assartref02_Layout → Int → Int → Int → Option (Bool)) (m_ref10_List : T_assartref02_Layout → Int → Int → (List Int) → Option ((List Int))) (m_ref02_Layout_Next : T_assartref02_Layout → Int → Option (Int)) (m_ref02_Layout_Prev : T_assartref02_Layout → Int → Option (Int)) (m_ref10_lay : T_assartref02_Layout → Int → Int → (List Int) → (List Int) → Option ((List Int))) (l2 : T_assartref02_Layout) (p : Int) (c : Int) (f : Int) (w : List Int) (K : V → Heap → Prop) : (exF (cfg_ref10_Unlink m_ref10_there m_ref10_List m_ref02_Layout_Next m_ref02_Layout_Prev m_ref10_lay) Try.f95 [.agg (e_assartref02_Layout l2), .row 0, vi p, vi c, vi f] [.row 0 w false] K) = (
    So (m_ref10_there l2 p c f) (fun (y0 : Bool) => (br (!y0) (K (vb (Bool.false)) [.row 0 (w : List (Int)) Bool.false]) (So (m_ref10_List l2 c f w) (fun (y1 : List Int) => (Loop (cfg_ref10_Unlink m_ref10_there m_ref10_List m_ref02_Layout_Next m_ref02_Layout_Prev m_ref10_lay) (⟨65, 1⟩ : Cx) (at_ (bodyOf Try.f95) [1, 1, 1, 1, 0, 1, 0, 0]) (mkEnv [(1, .row 0), (2, vi (p)), (3, vi (c)), (4, vi (f)), (5, .ptr 1 0), (11, .row 2), (12, .row 3), (13, vi (0))]) [.row 0 (w : List (Int)) Bool.false, .cells 30 (e_api_Config (T_assartref02_Layout.C l2)), .row 0 ([] : List (Int)) Bool.false, .row 0 (y1 : List (Int)) Bool.false] (contK (cfg_ref10_Unlink m_ref10_there m_ref10_List m_ref02_Layout_Next m_ref02_Layout_Prev m_ref10_lay) (⟨65, 1⟩ : Cx) (bodyOf Try.f95) [1, 1, 1, 1, 0, 1, 0] (retK (cfg_ref10_Unlink m_ref10_there m_ref10_List m_ref02_Layout_Next m_ref02_Layout_Prev m_ref10_lay) Try.f95 1 K)))))))) := by
  kernel_rfl

theorem nf_ref10_First_L1 (m_ref10_List : T_assartref02_Layout → Int → Int → (List Int) → Option ((List Int))) (l2 : T_assartref02_Layout) (c : Int) (w : List Int) (f : Int) (K : V → Heap → Prop) (J1 : Env → Heap → Prop) : (ex (cfg_ref10_First m_ref10_List) (⟨24, 1⟩ : Cx) (at_ (bodyOf Try.f49) [1, 0, 1, 0, 0]) (mkEnv [(1, .row 0), (2, vi (c)), (3, .ptr 1 0), (7, vi (f))]) [.row 0 (w : List (Int)) Bool.true, .cells 30 (e_api_Config (Go.Rx.T_assartref02_Layout.C l2))] (roundK (cfg_ref10_First m_ref10_List) (⟨24, 1⟩ : Cx) (at_ (bodyOf Try.f49) [1, 0, 1, 0, 0]) (contK (cfg_ref10_First m_ref10_List) (⟨24, 1⟩ : Cx) (bodyOf Try.f49) [1, 0, 1, 0] (retK (cfg_ref10_First m_ref10_List) Try.f49 1 K)) J1)) = (
    br (Decidable.decide (f ≤ 32)) (So (m_ref10_List l2 c f w) (fun (y0 : List Int) => (br (Decidable.decide ((↑(List.length y0) : Int) > 0)) (Req (inR 0 (List.length y0)) (Req (inR (offs 0 0) (List.length y0)) (K (vi (List.getD y0 0 0)) [.row 0 (w : List (Int)) Bool.true]))) (J1 (mkEnv [(1, .row 0), (2, vi (c)), (3, .ptr 1 0), (7, vi (IntKind.wrap IntKind.i64 (f + 1)))]) [.row 0 (w : List (Int)) Bool.true, .cells 30 (e_api_Config (T_assartref02_Layout.C l2))])))) (K (vi (-1)) [.row 0 (w : List (Int)) Bool.true])) := by
  kernel_rfl

theorem nf_ref10_First (m_ref10_List : T_assartref02_Layout → Int → Int → (List Int) → Option ((List Int))) (l2 : T_assartref02_Layout) (c : Int) (w : List Int) (K : V → Heap → Prop) : (exF (cfg_ref10_First m_ref10_List) Try.f49 [.agg (e_assartref02_Layout l2), .row 0, vi c] [.row 0 w true] K) = (
    Loop (cfg_ref10_First m_ref10_List) (⟨24, 1⟩ : Cx) (at_ (bodyOf Try.f49) [1, 0, 1, 0, 0]) (mkEnv [(1, .row 0), (2, vi (c)), (3, .ptr 1 0), (7, vi (1))]) [.row 0 (w : List (Int)) Bool.true, .cells 30 (e_api_Config (T_assartref02_Layout.C l2))] (contK (cfg_ref10_First m_ref10_List) (⟨24, 1⟩ : Cx) (bodyOf Try.f49) [1, 0, 1, 0] (retK (cfg_ref10_First m_ref10_List) Try.f49 1 K))) := by
  kernel_rfl

noncomputable def m_ref10_there (l2 : T_assartref02_Layout) (p : Int) (c : Int) (f : Int) : Option (Bool) :=
  (bif (Decidable.decide (p ≥ 0)) then (bif (Decidable.decide (p < T_api_Config.Pages (T_assartref02_Layout.C l2))) then ((m_ref02_Layout_Head l2 c f).bind fun y0 => some ((y0 != 0))) else some ((Bool.false))) else some ((Bool.false)))

noncomputable def sb_ref10_List_L1 (l2 : T_assartref02_Layout) (w : List Int) (atv : Int) (n : Int) (w2 : List Int) : Option ((Int × Int × (List Int)) ⊕ ((List Int))) :=
  (bif (Decidable.decide (n < T_api_Config.Pages (T_assartref02_Layout.C l2))) then (bif (Decidable.decide (atv > 0)) then (bif (Decidable.decide (List.length w2 + 1 ≤ 1048576)) then ((m_ref02_Layout_Next l2 (IntKind.wrap IntKind.i64 (atv - 1))).bind fun y0 => (bif (inR y0 (List.length w)) then (bif (inR (offs y0 0) (List.length w)) then some (.inl ((List.getD w (Int.toNat (offs y0 0)) 0), (IntKind.wrap IntKind.i64 (n + 1)), (w2 ++ [IntKind.wrap IntKind.i64 (atv - 1)]))) else none) else none)) else none) else some (.inr ((w2)))) else some (.inr ((w2))))

noncomputable def lp_ref10_List_L1 (l2 : T_assartref02_Layout) (w : List Int) (s : Int × Int × (List Int)) : Option ((List Int)) :=
  loopO (fun s => sb_ref10_List_L1 l2 w s.1 s.2.1 s.2.2) s

noncomputable def m_ref10_List (l2 : T_assartref02_Layout) (c : Int) (f : Int) (w : List Int) : Option ((List Int)) :=
  ((m_ref02_Layout_Head l2 c f).bind fun y0 => (bif (y0 == 0) then some (([])) else (bif (inR y0 (List.length w)) then (bif (inR (offs y0 0) (List.length w)) then (lp_ref10_List_L1 l2 w ((List.getD w (Int.toNat (offs y0 0)) 0), (0), ([]))) else none) else none)))

noncomputable def sb_ref10_lay_L1 (l2 : T_assartref02_Layout) (c : Int) (f : Int) (pages : List Int) (iv : Int) (w2 : List Int) : Option ((Int × (List Int)) ⊕ ((List Int))) :=
  (bif (Decidable.decide (iv < (↑(List.length pages) : Int))) then (bif (inR iv (List.length pages)) then (bif (inR (offs iv 0) (List.length pages)) then ((m_ref02_Layout_Next l2 (List.getD pages (Int.toNat (offs iv 0)) 0)).bind fun y0 => (bif (inR y0 (List.length w2)) then (bif (inR (offs y0 0) (List.length w2)) then ((m_ref02_Layout_Prev l2 (List.getD pages (Int.toNat (offs iv 0)) 0)).bind fun y1 => (bif (inR y1 (List.length (List.set w2 (Int.toNat (offs y0 0)) 0))) then (bif (inR (offs y1 0) (List.length (List.set w2 (Int.toNat (offs y0 0)) 0))) then (bif (iv == 0) then ((m_ref02_Layout_Head l2 c f).bind fun y2 => (bif (inR y2 (List.length (List.set (List.set w2 (Int.toNat (offs y0 0)) 0) (Int.toNat (offs y1 0)) 0))) then (bif (inR (offs y2 0) (List.length (List.set (List.set w2 (Int.toNat (offs y0 0)) 0) (Int.toNat (offs y1 0)) 0))) then (bif (Decidable.decide (IntKind.wrap IntKind.i64 (iv + 1) < (↑(List.length pages) : Int))) then (bif (inR (IntKind.wrap IntKind.i64 (iv + 1)) (List.length pages)) then (bif (inR (offs (IntKind.wrap IntKind.i64 (iv + 1)) 0) (List.length pages)) then ((m_ref02_Layout_Next l2 (List.getD pages (Int.toNat (offs iv 0)) 0)).bind fun y3 => (bif (inR y3 (List.length (List.set (List.set (List.set w2 (Int.toNat (offs y0 0)) 0) (Int.toNat (offs y1 0)) 0) (Int.toNat (offs y2 0)) (IntKind.wrap IntKind.i64 (List.getD pages (Int.toNat (offs iv 0)) 0 + 1))))) then (bif (inR (offs y3 0) (List.length (List.set (List.set (List.set w2 (Int.toNat (offs y0 0)) 0) (Int.toNat (offs y1 0)) 0) (Int.toNat (offs y2 0)) (IntKind.wrap IntKind.i64 (List.getD pages (Int.toNat (offs iv 0)) 0 + 1))))) then some (.inl ((IntKind.wrap IntKind.i64 (iv + 1)), (List.set (List.set (List.set (List.set w2 (Int.toNat (offs y0 0)) 0) (Int.toNat (offs y1 0)) 0) (Int.toNat (offs y2 0)) (IntKind.wrap IntKind.i64 (List.getD pages (Int.toNat (offs iv 0)) 0 + 1))) (Int.toNat (offs y3 0)) (IntKind.wrap IntKind.i64 (List.getD pages (Int.toNat (offs (IntKind.wrap IntKind.i64 (iv + 1)) 0)) 0 + 1))))) else none) else none)) else none) else none) else some (.inl ((IntKind.wrap IntKind.i64 (iv + 1)), (List.set (List.set (List.set w2 (Int.toNat (offs y0 0)) 0) (Int.toNat (offs y1 0)) 0) (Int.toNat (offs y2 0)) (IntKind.wrap IntKind.i64 (List.getD pages (Int.toNat (offs iv 0)) 0 + 1)))))) else none) else none)) else (bif (inR (IntKind.wrap IntKind.i64 (iv - 1)) (List.length pages)) then (bif (inR (offs (IntKind.wrap IntKind.i64 (iv - 1)) 0) (List.length pages)) then ((m_ref02_Layout_Prev l2 (List.getD pages (Int.toNat (offs iv 0)) 0)).bind fun y4 => (bif (inR y4 (List.length (List.set (List.set w2 (Int.toNat (offs y0 0)) 0) (Int.toNat (offs y1 0)) 0))) then (bif (inR (offs y4 0) (List.length (List.set (List.set w2 (Int.toNat (offs y0 0)) 0) (Int.toNat (offs y1 0)) 0))) then (bif (Decidable.decide (IntKind.wrap IntKind.i64 (iv + 1) < (↑(List.length pages) : Int))) then (bif (inR (IntKind.wrap IntKind.i64 (iv + 1)) (List.length pages)) then (bif (inR (offs (IntKind.wrap IntKind.i64 (iv + 1)) 0) (List.length pages)) then ((m_ref02_Layout_Next l2 (List.getD pages (Int.toNat (offs iv 0)) 0)).bind fun y5 => (bif (inR y5 (List.length (List.set (List.set (List.set w2 (Int.toNat (offs y0 0)) 0) (Int.toNat (offs y1 0)) 0) (Int.toNat (offs y4 0)) (IntKind.wrap IntKind.i64 (List.getD pages (Int.toNat (offs (IntKind.wrap IntKind.i64 (iv - 1)) 0)) 0 + 1))))) then (bif (inR (offs y5 0) (List.length (List.set (List.set (List.set w2 (Int.toNat (offs y0 0)) 0) (Int.toNat (offs y1 0)) 0) (Int.toNat (offs y4 0)) (IntKind.wrap IntKind.i64 (List.getD pages (Int.toNat (offs (IntKind.wrap IntKind.i64 (iv - 1)) 0)) 0 + 1))))) then some (.inl ((IntKind.wrap IntKind.i64 (iv + 1)), (List.set (List.set (List.set (List.set w2 (Int.toNat (offs y0 0)) 0) (Int.toNat (offs y1 0)) 0) (Int.toNat (offs y4 0)) (IntKind.wrap IntKind.i64 (List.getD pages (Int.toNat (offs (IntKind.wrap IntKind.i64 (iv - 1)) 0)) 0 + 1))) (Int.toNat (offs y5 0)) (IntKind.wrap IntKind.i64 (List.getD pages (Int.toNat (offs (IntKind.wrap IntKind.i64 (iv + 1)) 0)) 0 + 1))))) else none) else none)) else none) else none) else some (.inl ((IntKind.wrap IntKind.i64 (iv + 1)), (List.set (List.set (List.set w2 (Int.toNat (offs y0 0)) 0) (Int.toNat (offs y1 0)) 0) (Int.toNat (offs y4 0)) (IntKind.wrap IntKind.i64 (List.getD pages (Int.toNat (offs (IntKind.wrap IntKind.i64 (iv - 1)) 0)) 0 + 1)))))) else none) else none)) else none) else none)) else none) else none)) else none) else none)) else none) else none) else some (.inr ((w2))))

noncomputable def lp_ref10_lay_L1 (l2 : T_assartref02_Layout) (c : Int) (f : Int) (pages : List Int) (s : Int × (List Int)) : Option ((List Int)) :=
  loopO (fun s => sb_ref10_lay_L1 l2 c f pages s.1 s.2) s

noncomputable def m_ref10_lay (l2 : T_assartref02_Layout) (c : Int) (f : Int) (w : List Int) (pages : List Int) : Option ((List Int)) :=
  ((m_ref02_Layout_Head l2 c f).bind fun y0 => (bif (inR y0 (List.length w)) then (bif (inR (offs y0 0) (List.length w)) then (lp_ref10_lay_L1 l2 c f pages ((0), (List.set w (Int.toNat (offs y0 0)) 0))) else none) else none))

noncomputable def m_ref10_Link (l2 : T_assartref02_Layout) (p : Int) (c : Int) (f : Int) (w : List Int) : Option (Bool × (List Int)) :=
  ((m_ref10_there l2 p c f).bind fun y0 => (bif (!y0) then some (((Bool.false), (w))) else ((m_ref10_List l2 c f w).bind fun y3 => (bif (Decidable.decide (1 + List.length y3 ≤ 1048576)) then ((m_ref10_lay l2 c f w (p :: y3)).bind fun y4 => some (((Bool.true), (y4)))) else none))))

noncomputable def sb_ref10_Unlink_L1 (l2 : T_assartref02_Layout) (p : Int) (c : Int) (f : Int) (w : List Int) (w3 : List Int) (iv : Int) (w2 : List Int) : Option ((Int × (List Int)) ⊕ (Bool × (List Int))) :=
  (bif (Decidable.decide (iv < (↑(List.length w3) : Int))) then (bif (inR iv (List.length w3)) then (bif (inR (offs iv 0) (List.length w3)) then (bif (List.getD w3 (Int.toNat (offs iv 0)) 0 != p) then (bif (inR iv (List.length w3)) then (bif (inR (offs iv 0) (List.length w3)) then (bif (Decidable.decide (List.length w2 + 1 ≤ 1048576)) then some (.inl ((IntKind.wrap IntKind.i64 (iv + 1)), (w2 ++ [List.getD w3 (Int.toNat (offs iv 0)) 0]))) else none) else none) else none) else some (.inl ((IntKind.wrap IntKind.i64 (iv + 1)), (w2)))) else none) else none) else (bif ((↑(List.length w2) : Int) == (↑(List.length w3) : Int)) then some (.inr (((Bool.false), (w)))) else ((m_ref02_Layout_Next l2 p).bind fun y0 => (bif (inR y0 (List.length w)) then (bif (inR (offs y0 0) (List.length w)) then ((m_ref02_Layout_Prev l2 p).bind fun y1 => (bif (inR y1 (List.length (List.set w (Int.toNat (offs y0 0)) 0))) then (bif (inR (offs y1 0) (List.length (List.set w (Int.toNat (offs y0 0)) 0))) then ((m_ref10_lay l2 c f (List.set (List.set w (Int.toNat (offs y0 0)) 0) (Int.toNat (offs y1 0)) 0) w2).bind fun y2 => some (.inr (((Bool.true), (y2))))) else none) else none)) else none) else none))))

noncomputable def lp_ref10_Unlink_L1 (l2 : T_assartref02_Layout) (p : Int) (c : Int) (f : Int) (w : List Int) (w3 : List Int) (s : Int × (List Int)) : Option (Bool × (List Int)) :=
  loopO (fun s => sb_ref10_Unlink_L1 l2 p c f w w3 s.1 s.2) s

noncomputable def m_ref10_Unlink (l2 : T_assartref02_Layout) (p : Int) (c : Int) (f : Int) (w : List Int) : Option (Bool × (List Int)) :=
  ((m_ref10_there l2 p c f).bind fun y0 => (bif (!y0) then some (((Bool.false), (w))) else ((m_ref10_List l2 c f w).bind fun y1 => (lp_ref10_Unlink_L1 l2 p c f w (y1) ((0), ([]))))))

noncomputable def sb_ref10_First_L1 (l2 : T_assartref02_Layout) (c : Int) (w : List Int) (f : Int) : Option ((Int) ⊕ (Int)) :=
  (bif (Decidable.decide (f ≤ 32)) then ((m_ref10_List l2 c f w).bind fun y0 => (bif (Decidable.decide ((↑(List.length y0) : Int) > 0)) then (bif (inR 0 (List.length y0)) then (bif (inR (offs 0 0) (List.length y0)) then some (.inr ((List.getD y0 0 0))) else none) else none) else some (.inl (IntKind.wrap IntKind.i64 (f + 1))))) else some (.inr ((-1))))

noncomputable def lp_ref10_First_L1 (l2 : T_assartref02_Layout) (c : Int) (w : List Int) (s : Int) : Option (Int) :=
  loopO (fun s => sb_ref10_First_L1 l2 c w s) s

noncomputable def m_ref10_First (l2 : T_assartref02_Layout) (c : Int) (w : List Int) : Option (Int) :=
  (lp_ref10_First_L1 l2 c w (1))

attribute [local irreducible] Loop ex exF contK roundK retK at_ bodyOf mkEnv
theorem ok_ref10_there : SpecOK Try.prog elTT 134 (sp_ref10_there m_ref10_there) := by
  refine spec_of_exF (cfg := (cfg_ref10_there m_ref02_Layout_Head)) (cfg_ok rfl rfl rfl) (sig_cons ok_ref02_Layout_Head sig_nil) (fn := Try.f134) (by kernel_rfl) (by kernel_rfl) (by kernel_rfl) ?_
  intro args H K h
  change tr_ref10_there m_ref10_there args H K at h
  unfold tr_ref10_there at h
  replace h := aC_el h
  obtain ⟨a0, _, rfl, h⟩ := h
  replace h := aC_el h
  obtain ⟨a1, _, rfl, h⟩ := h
  replace h := aC_el h
  obtain ⟨a2, _, rfl, h⟩ := h
  replace h := aC_el h
  obtain ⟨a3, _, rfl, h⟩ := h
  replace h := aN_el h
  obtain ⟨rfl, h⟩ := h
  replace h := aAgg_el h
  obtain ⟨c0, rfl, h⟩ := h
  replace h := d_assartref02_Layout_el h
  obtain ⟨l2, rfl, h⟩ := h
  replace h := aInt_el h
  obtain ⟨p, rfl, h⟩ := h
  replace h := aInt_el h
  obtain ⟨c, rfl, h⟩ := h
  replace h := aInt_el h
  obtain ⟨f, rfl, h⟩ := h
  replace h := aN_el h
  obtain ⟨rfl, h⟩ := h
  refine Eq.mpr (nf_ref10_there m_ref02_Layout_Head l2 p c f K) ?_
  unfold m_ref10_there at h
  revert h
  exact br_So (br_So (bind_So fun y0 => fun h => h) (fun h => h)) (fun h => h)

theorem lpok_ref10_List_L1 (l2 : T_assartref02_Layout) (c : Int) (f : Int) (w : List Int) (atv : Int) (n : Int) (w2 : List Int) (K : V → Heap → Prop) : So (lp_ref10_List_L1 (l2) (w) (atv, n, w2)) (fun (x : (List Int)) => K (.row 1) [.row 0 w true, .row 0 (x) false]) → Loop (cfg_ref10_List m_ref02_Layout_Head m_ref02_Layout_Next) (⟨47, 1⟩ : Cx) (at_ (bodyOf Try.f48) [1, 1, 1, 1, 1, 0, 1, 0, 0]) (mkEnv [(1, .row 0), (4, .ptr 1 0), (10, .row 2), (11, vi (atv)), (12, vi (n))]) [.row 0 (w : List (Int)) Bool.true, .cells 30 (e_api_Config (T_assartref02_Layout.C l2)), .row 0 (w2 : List (Int)) Bool.false] (contK (cfg_ref10_List m_ref02_Layout_Head m_ref02_Layout_Next) (⟨47, 1⟩ : Cx) (bodyOf Try.f48) [1, 1, 1, 1, 1, 0, 1, 0] (retK (cfg_ref10_List m_ref02_Layout_Head m_ref02_Layout_Next) Try.f48 1 K)) := by
  refine loopK_So (fun (s_ : Int × Int × (List Int)) => (mkEnv [(1, .row 0), (4, .ptr 1 0), (10, .row 2), (11, vi ((s_.1))), (12, vi ((s_.2.1)))])) (fun (s_ : Int × Int × (List Int)) => [.row 0 (w : List (Int)) Bool.true, .cells 30 (e_api_Config (T_assartref02_Layout.C l2)), .row 0 ((s_.2.2) : List (Int)) Bool.false]) (fun (x : (List Int)) => K (.row 1) [.row 0 w true, .row 0 (x) false]) ?_ (atv, n, w2)
  intro s_ J1 h
  clear atv
  clear n
  clear w2
  obtain ⟨atv, n, w2⟩ := s_
  refine Eq.mpr (nf_ref10_List_L1 m_ref02_Layout_Head m_ref02_Layout_Next l2 c f w atv n w2 K J1) ?_
  have h : So (sb_ref10_List_L1 (l2) (w) atv n w2) _ := h
  unfold sb_ref10_List_L1 at h
  revert h
  exact br_So (br_So (req_So (bind_So fun y0 => req_So (req_So (fun h => h)))) (fun h => h)) (fun h => h)

theorem ok_ref10_List : SpecOK Try.prog elTT 48 (sp_ref10_List m_ref10_List) := by
  refine spec_of_exF (cfg := (cfg_ref10_List m_ref02_Layout_Head m_ref02_Layout_Next)) (cfg_ok rfl rfl rfl) (sig_cons ok_ref02_Layout_Head (sig_cons ok_ref02_Layout_Next sig_nil)) (fn := Try.f48) (by kernel_rfl) (by kernel_rfl) (by kernel_rfl) ?_
  intro args H K h
  change tr_ref10_List m_ref10_List args H K at h
  unfold tr_ref10_List at h
  replace h := aC_el h
  obtain ⟨a0, _, rfl, h⟩ := h
  replace h := aC_el h
  obtain ⟨a1, _, rfl, h⟩ := h
  replace h := aC_el h
  obtain ⟨a2, _, rfl, h⟩ := h
  replace h := aC_el h
  obtain ⟨a3, _, rfl, h⟩ := h
  replace h := aN_el h
  obtain ⟨rfl, h⟩ := h
  replace h := aAgg_el h
  obtain ⟨c0, rfl, h⟩ := h
  replace h := d_assartref02_Layout_el h
  obtain ⟨l2, rfl, h⟩ := h
  replace h := aRow_el h
  obtain ⟨rfl, h⟩ := h
  replace h := aInt_el h
  obtain ⟨c, rfl, h⟩ := h
  replace h := aInt_el h
  obtain ⟨f, rfl, h⟩ := h
  replace h := aC_el h
  obtain ⟨b0, _, rfl, h⟩ := h
  replace h := aN_el h
  obtain ⟨rfl, h⟩ := h
  replace h := bRow_el h
  obtain ⟨(w : List Int), rfl, h⟩ := h
  refine Eq.mpr (nf_ref10_List m_ref02_Layout_Head m_ref02_Layout_Next l2 c f w K) ?_
  unfold m_ref10_List at h
  revert h
  exact bind_So fun y0 => br_So (fun h => h) (req_So (req_So (lpok_ref10_List_L1 l2 c f w (List.getD w (Int.toNat (offs y0 0)) 0) (0) ([]) K)))

theorem lpok_ref10_lay_L1 (l2 : T_assartref02_Layout) (c : Int) (f : Int) (w : List Int) (pages : List Int) (iv : Int) (w2 : List Int) (K : V → Heap → Prop) : So (lp_ref10_lay_L1 (l2) (c) (f) (pages) (iv, w2)) (fun (x : (List Int)) => K (.tup []) [.row 0 (x) false, .row 0 pages true]) → Loop (cfg_ref10_lay m_ref02_Layout_Head m_ref02_Layout_Next m_ref02_Layout_Prev) (⟨75, 2⟩ : Cx) (at_ (bodyOf Try.f135) [1, 1, 1, 0, 0]) (mkEnv [(1, .row 0), (2, vi (c)), (3, vi (f)), (4, .row 1), (5, .ptr 2 0), (10, vi (iv))]) [.row 0 (w2 : List (Int)) Bool.false, .row 0 (pages : List (Int)) Bool.true, .cells 30 (e_api_Config (T_assartref02_Layout.C l2))] (contK (cfg_ref10_lay m_ref02_Layout_Head m_ref02_Layout_Next m_ref02_Layout_Prev) (⟨75, 2⟩ : Cx) (bodyOf Try.f135) [1, 1, 1, 0] (retK (cfg_ref10_lay m_ref02_Layout_Head m_ref02_Layout_Next m_ref02_Layout_Prev) Try.f135 2 K)) := by
  refine loopK_So (fun (s_ : Int × (List Int)) => (mkEnv [(1, .row 0), (2, vi (c)), (3, vi (f)), (4, .row 1), (5, .ptr 2 0), (10, vi ((s_.1)))])) (fun (s_ : Int × (List Int)) => [.row 0 ((s_.2) : List (Int)) Bool.false, .row 0 (pages : List (Int)) Bool.true, .cells 30 (e_api_Config (T_assartref02_Layout.C l2))]) (fun (x : (List Int)) => K (.tup []) [.row 0 (x) false, .row 0 pages true]) ?_ (iv, w2)
  intro s_ J1 h
  clear iv
  clear w2
  obtain ⟨iv, w2⟩ := s_
  refine Eq.mpr (nf_ref10_lay_L1 m_ref02_Layout_Head m_ref02_Layout_Next m_ref02_Layout_Prev l2 c f w pages iv w2 K J1) ?_
  have h : So (sb_ref10_lay_L1 (l2) (c) (f) (pages) iv w2) _ := h
  unfold sb_ref10_lay_L1 at h
  revert h
  exact br_So (req_So (req_So (bind_So fun y0 => req_So (req_So (bind_So fun y1 => req_So (req_So (br_So (bind_So fun y2 => req_So (req_So (br_So (req_So (req_So (bind_So fun y3 => req_So (req_So (fun h => h))))) (fun h => h)))) (req_So (req_So (bind_So fun y4 => req_So (req_So (br_So (req_So (req_So (bind_So fun y5 => req_So (req_So (fun h => h))))) (fun h => h))))))))))))) (fun h => h)

theorem ok_ref10_lay : SpecOK Try.prog elTT 135 (sp_ref10_lay m_ref10_lay) := by
  refine spec_of_exF (cfg := (cfg_ref10_lay m_ref02_Layout_Head m_ref02_Layout_Next m_ref02_Layout_Prev)) (cfg_ok rfl rfl rfl) (sig_cons ok_ref02_Layout_Head (sig_cons ok_ref02_Layout_Next (sig_cons ok_ref02_Layout_Prev sig_nil))) (fn := Try.f135) (by kernel_rfl) (by kernel_rfl) (by kernel_rfl) ?_
  intro args H K h
  change tr_ref10_lay m_ref10_lay args H K at h
  unfold tr_ref10_lay at h
  replace h := aC_el h
  obtain ⟨a0, _, rfl, h⟩ := h
  replace h := aC_el h
  obtain ⟨a1, _, rfl, h⟩ := h
  replace h := aC_el h
  obtain ⟨a2, _, rfl, h⟩ := h
  replace h := aC_el h
  obtain ⟨a3, _, rfl, h⟩ := h
  replace h := aC_el h
  obtain ⟨a4, _, rfl, h⟩ := h
  replace h := aN_el h
  obtain ⟨rfl, h⟩ := h
  replace h := aAgg_el h
  obtain ⟨c0, rfl, h⟩ := h
  replace h := d_assartref02_Layout_el h
  obtain ⟨l2, rfl, h⟩ := h
  replace h := aRow_el h
  obtain ⟨rfl, h⟩ := h
  replace h := aInt_el h
  obtain ⟨c, rfl, h⟩ := h
  replace h := aInt_el h
  obtain ⟨f, rfl, h⟩ := h
  replace h := aRow_el h
  obtain ⟨rfl, h⟩ := h
  replace h := aC_el h
  obtain ⟨b0, _, rfl, h⟩ := h
  replace h := aC_el h
  obtain ⟨b1, _, rfl, h⟩ := h
  replace h := aN_el h
  obtain ⟨rfl, h⟩ := h
  replace h := bRow_el h
  obtain ⟨(w : List Int), rfl, h⟩ := h
  replace h := bRow_el h
  obtain ⟨(pages : List Int), rfl, h⟩ := h
  refine Eq.mpr (nf_ref10_lay m_ref02_Layout_Head m_ref02_Layout_Next m_ref02_Layout_Prev l2 c f w pages K) ?_
  unfold m_ref10_lay at h
  revert h
  exact bind_So fun y0 => req_So (req_So (lpok_ref10_lay_L1 l2 c f w pages (0) (List.set w (Int.toNat (offs y0 0)) 0) K))

theorem ok_ref10_Link : SpecOK Try.prog elTT 94 (sp_ref10_Link m_ref10_Link) := by
  refine spec_of_exF (cfg := (cfg_ref10_Link m_ref10_there m_ref10_List m_ref10_lay)) (cfg_ok rfl rfl rfl) (sig_cons ok_ref10_there (sig_cons ok_ref10_List (sig_cons ok_ref10_lay sig_nil))) (fn := Try.f94) (by kernel_rfl) (by kernel_rfl) (by kernel_rfl) ?_
  intro args H K h
  change tr_ref10_Link m_ref10_Link args H K at h
  unfold tr_ref10_Link at h
  replace h := aC_el h
  obtain ⟨a0, _, rfl, h⟩ := h
  replace h := aC_el h
  obtain ⟨a1, _, rfl, h⟩ := h
  replace h := aC_el h
  obtain ⟨a2, _, rfl, h⟩ := h
  replace h := aC_el h
  obtain ⟨a3, _, rfl, h⟩ := h
  replace h := aC_el h
  obtain ⟨a4, _, rfl, h⟩ := h
  replace h := aN_el h
  obtain ⟨rfl, h⟩ := h
  replace h := aAgg_el h
  obtain ⟨c0, rfl, h⟩ := h
  replace h := d_assartref02_Layout_el h
  obtain ⟨l2, rfl, h⟩ := h
  replace h := aRow_el h
  obtain ⟨rfl, h⟩ := h
  replace h := aInt_el h
  obtain ⟨p, rfl, h⟩ := h
  replace h := aInt_el h
  obtain ⟨c, rfl, h⟩ := h
  replace h := aInt_el h
  obtain ⟨f, rfl, h⟩ := h
  replace h := aC_el h
  obtain ⟨b0, _, rfl, h⟩ := h
  replace h := aN_el h
  obtain ⟨rfl, h⟩ := h
  replace h := bRow_el h
  obtain ⟨(w : List Int), rfl, h⟩ := h
  refine Eq.mpr (nf_ref10_Link m_ref10_there m_ref10_List m_ref10_lay l2 p c f w K) ?_
  unfold m_ref10_Link at h
  revert h
  exact bind_So fun y0 => br_So (fun h => h) (alt_So (bind_So fun y1 => req_So (bind_So fun y2 => fun h => h)) (bind_So fun y3 => req_So (bind_So fun y4 => fun h => h)))

theorem lpok_ref10_Unlink_L1 (l2 : T_assartref02_Layout) (p : Int) (c : Int) (f : Int) (w : List Int) (iv : Int) (w2 : List Int) (w3 : List Int) (K : V → Heap → Prop) : So (lp_ref10_Unlink_L1 (l2) (p) (c) (f) (w) (w3) (iv, w2)) (fun (x : Bool × (List Int)) => K (vb (x.1)) [.row 0 (x.2) false]) → Loop (cfg_ref10_Unlink m_ref10_there m_ref10_List m_ref02_Layout_Next m_ref02_Layout_Prev m_ref10_lay) (⟨65, 1⟩ : Cx) (at_ (bodyOf Try.f95) [1, 1, 1, 1, 0, 1, 0, 0]) (mkEnv [(1, .row 0), (2, vi (p)), (3, vi (c)), (4, vi (f)), (5, .ptr 1 0), (11, .row 2), (12, .row 3), (13, vi (iv))]) [.row 0 (w : List (Int)) Bool.false, .cells 30 (e_api_Config (T_assartref02_Layout.C l2)), .row 0 (w2 : List (Int)) Bool.false, .row 0 (w3 : List (Int)) Bool.false] (contK (cfg_ref10_Unlink m_ref10_there m_ref10_List m_ref02_Layout_Next m_ref02_Layout_Prev m_ref10_lay) (⟨65, 1⟩ : Cx) (bodyOf Try.f95) [1, 1, 1, 1, 0, 1, 0] (retK (cfg_ref10_Unlink m_ref10_there m_ref10_List m_ref02_Layout_Next m_ref02_Layout_Prev m_ref10_lay) Try.f95 1 K)) := by
  refine loopK_So (fun (s_ : Int × (List Int)) => (mkEnv [(1, .row 0), (2, vi (p)), (3, vi (c)), (4, vi (f)), (5, .ptr 1 0), (11, .row 2), (12, .row 3), (13, vi ((s_.1)))])) (fun (s_ : Int × (List Int)) => [.row 0 (w : List (Int)) Bool.false, .cells 30 (e_api_Config (T_assartref02_Layout.C l2)), .row 0 ((s_.2) : List (Int)) Bool.false, .row 0 (w3 : List (Int)) Bool.false]) (fun (x : Bool × (List Int)) => K (vb (x.1)) [.row 0 (x.2) false]) ?_ (iv, w2)
  intro s_ J1 h
  clear iv
  clear w2
  obtain ⟨iv, w2⟩ := s_
  refine Eq.mpr (nf_ref10_Unlink_L1 m_ref10_there m_ref10_List m_ref02_Layout_Next m_ref02_Layout_Prev m_ref10_lay l2 p c f w iv w2 w3 K J1) ?_
  have h : So (sb_ref10_Unlink_L1 (l2) (p) (c) (f) (w) (w3) iv w2) _ := h
  unfold sb_ref10_Unlink_L1 at h
  revert h
  exact br_So (req_So (req_So (br_So (req_So (req_So (req_So (fun h => h)))) (fun h => h)))) (br_So (fun h => h) (bind_So fun y0 => req_So (req_So (bind_So fun y1 => req_So (req_So (bind_So fun y2 => fun h => h))))))

theorem ok_ref10_Unlink : SpecOK Try.prog elTT 95 (sp_ref10_Unlink m_ref10_Unlink) := by
  refine spec_of_exF (cfg := (cfg_ref10_Unlink m_ref10_there m_ref10_List m_ref02_Layout_Next m_ref02_Layout_Prev m_ref10_lay)) (cfg_ok rfl rfl rfl) (sig_cons ok_ref10_there (sig_cons ok_ref10_List (sig_cons ok_ref02_Layout_Next (sig_cons ok_ref02_Layout_Prev (sig_cons ok_ref10_lay sig_nil))))) (fn := Try.f95) (by kernel_rfl) (by kernel_rfl) (by kernel_rfl) ?_
  intro args H K h
  change tr_ref10_Unlink m_ref10_Unlink args H K at h
  unfold tr_ref10_Unlink at h
  replace h := aC_el h
  obtain ⟨a0, _, rfl, h⟩ := h
  replace h := aC_el h
  obtain ⟨a1, _, rfl, h⟩ := h
  replace h := aC_el h
  obtain ⟨a2, _, rfl, h⟩ := h
  replace h := aC_el h
  obtain ⟨a3, _, rfl, h⟩ := h
  replace h := aC_el h
  obtain ⟨a4, _, rfl, h⟩ := h
  replace h := aN_el h
  obtain ⟨rfl, h⟩ := h
  replace h := aAgg_el h
  obtain ⟨c0, rfl, h⟩ := h
  replace h := d_assartref02_Layout_el h
  obtain ⟨l2, rfl, h⟩ := h
  replace h := aRow_el h
  obtain ⟨rfl, h⟩ := h
  replace h := aInt_el h
  obtain ⟨p, rfl, h⟩ := h
  replace h := aInt_el h
  obtain ⟨c, rfl, h⟩ := h
  replace h := aInt_el h
  obtain ⟨f, rfl, h⟩ := h
  replace h := aC_el h
  obtain ⟨b0, _, rfl, h⟩ := h
  replace h := aN_el h
  obtain ⟨rfl, h⟩ := h
  replace h := bRow_el h
  obtain ⟨(w : List Int), rfl, h⟩ := h
  refine Eq.mpr (nf_ref10_Unlink m_ref10_there m_ref10_List m_ref02_Layout_Next m_ref02_Layout_Prev m_ref10_lay l2 p c f w K) ?_
  unfold m_ref10_Unlink at h
  revert h
  exact bind_So fun y0 => br_So (fun h => h) (bind_So fun y1 => lpok_ref10_Unlink_L1 l2 p c f w (0) ([]) (y1) K)

theorem lpok_ref10_First_L1 (l2 : T_assartref02_Layout) (c : Int) (w : List Int) (f : Int) (K : V → Heap → Prop) : So (lp_ref10_First_L1 (l2) (c) (w) f) (fun (x : Int) => K (vi (x)) [.row 0 w true]) → Loop (cfg_ref10_First m_ref10_List) (⟨24, 1⟩ : Cx) (at_ (bodyOf Try.f49) [1, 0, 1, 0, 0]) (mkEnv [(1, .row 0), (2, vi (c)), (3, .ptr 1 0), (7, vi (f))]) [.row 0 (w : List (Int)) Bool.true, .cells 30 (e_api_Config (T_assartref02_Layout.C l2))] (contK (cfg_ref10_First m_ref10_List) (⟨24, 1⟩ : Cx) (bodyOf Try.f49) [1, 0, 1, 0] (retK (cfg_ref10_First m_ref10_List) Try.f49 1 K)) := by
  refine loopK_So (fun (s_ : Int) => (mkEnv [(1, .row 0), (2, vi (c)), (3, .ptr 1 0), (7, vi ((s_)))])) (fun (s_ : Int) => [.row 0 (w : List (Int)) Bool.true, .cells 30 (e_api_Config (T_assartref02_Layout.C l2))]) (fun (x : Int) => K (vi (x)) [.row 0 w true]) ?_ f
  intro s_ J1 h
  clear f
  revert h; revert s_; intro f h
  refine Eq.mpr (nf_ref10_First_L1 m_ref10_List l2 c w f K J1) ?_
  have h : So (sb_ref10_First_L1 (l2) (c) (w) f) _ := h
  unfold sb_ref10_First_L1 at h
  revert h
  exact br_So (bind_So fun y0 => br_So (req_So (req_So (fun h => h))) (fun h => h)) (fun h => h)

theorem ok_ref10_First : SpecOK Try.prog elTT 49 (sp_ref10_First m_ref10_First) := by
  refine spec_of_exF (cfg := (cfg_ref10_First m_ref10_List)) (cfg_ok rfl rfl rfl) (sig_cons ok_ref10_List sig_nil) (fn := Try.f49) (by kernel_rfl) (by kernel_rfl) (by kernel_rfl) ?_
  intro args H K h
  change tr_ref10_First m_ref10_First args H K at h
  unfold tr_ref10_First at h
  replace h := aC_el h
  obtain ⟨a0, _, rfl, h⟩ := h
  replace h := aC_el h
  obtain ⟨a1, _, rfl, h⟩ := h
  replace h := aC_el h
  obtain ⟨a2, _, rfl, h⟩ := h
  replace h := aN_el h
  obtain ⟨rfl, h⟩ := h
  replace h := aAgg_el h
  obtain ⟨c0, rfl, h⟩ := h
  replace h := d_assartref02_Layout_el h
  obtain ⟨l2, rfl, h⟩ := h
  replace h := aRow_el h
  obtain ⟨rfl, h⟩ := h
  replace h := aInt_el h
  obtain ⟨c, rfl, h⟩ := h
  replace h := aC_el h
  obtain ⟨b0, _, rfl, h⟩ := h
  replace h := aN_el h
  obtain ⟨rfl, h⟩ := h
  replace h := bRow_el h
  obtain ⟨(w : List Int), rfl, h⟩ := h
  refine Eq.mpr (nf_ref10_First m_ref10_List l2 c w K) ?_
  unfold m_ref10_First at h
  revert h
  exact lpok_ref10_First_L1 l2 c w (1) K

end Go.Rx
end
