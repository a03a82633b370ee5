/- What the row's text of this claim stands on, part 3: the symbolic executor, contracts of the program's functions, plain facts. No condition. -/
import Derived.WalkKit
import Derived.ProofKit
import Derived.OpenShut
import Derived.Carry
import Derived.Deep.Slices
import Derived.JoinedOf
import Derived.Test.YtgogaoelkdjajaaK08cB
section
/- view.Do, for any program over a view: the contracts that it stands on; what is written at the end. -/
namespace Go.Rx
open Go.Proofs
attribute [local irreducible] Loop ex exF contK roundK retK at_ bodyOf mkEnv mkA

theorem sigOver_ok : ∀ g s, sigOver g = some s → SpecOK Try.prog elTT g s := by
  intro g s hs
  unfold sigOver at hs
  split at hs
  · injection hs with hs; subst hs; exact inlS_ok (cfg := cfgB) (cfg_ok rfl rfl rfl) (nosig rfl) (fn := Try.f153) (by kernel_rfl) (by kernel_rfl) (by kernel_rfl)
  · cases hs

theorem overX_ok : SpecDOK Try.prog elTT 152 overX :=
  specD_of_exF_rec (cfg := cfg107) (cfg_ok rfl rfl rfl) sigOver_ok (fn := Try.f152) (by kernel_rfl) (by kernel_rfl) (id := 0) (ops := opsOf0 Try.f152) (by kernel_rfl) (plan := List.range 4) (kd := 2) rfl rfl fun _ _ _ h => h

theorem sdRun_ok : ∀ g s, sdRun g = some s → SpecDOK Try.prog elTT g s := by
  intro g s hs
  unfold sdRun at hs
  split at hs
  · injection hs with hs; subst hs; exact overX_ok
  · cases hs

theorem runX_ok {g : FuncId} {s : Spec} (h : SpecOK Try.prog elTT g s) : SpecOK Try.prog elTT 122 (runX g s) :=
  spec_of_exFD (cfg := cfgRun g s) (cfg_ok rfl rfl rfl) (fun f t hs => by
    change (bif Nat.beq f g then some (packS 74 s) else none) = some t at hs
    cases hb : Nat.beq f g with
    | false => rw [hb] at hs; cases hs
    | true =>
      rw [hb] at hs
      have := Nat.eq_of_beq_eq_true hb
      subst this
      injection hs with hs; subst hs
      exact pack_ok (cfg := cfgB) absE h) sdRun_ok (fn := Try.f122) (by kernel_rfl) (by kernel_rfl) (by kernel_rfl) fun _ _ _ h => h

theorem sigAll_ok {g : FuncId} {s : Spec} (h : SpecOK Try.prog elTT g s) : ∀ f t, sigAll g s f = some t → SpecOK Try.prog elTT f t := by
  intro f t hs
  unfold sigAll at hs
  split at hs
  · exact (Option.some.inj hs) ▸ new_ok
  · exact (Option.some.inj hs) ▸ runX_ok h
  · exact (Option.some.inj hs) ▸ pairs_ok
  · cases hs

theorem sigDo_ok {g : FuncId} {s : Spec} (h : SpecOK Try.prog elTT g s) : ∀ f t, sigDo g s f = some t → SpecOK Try.prog elTT f t := by
  intro f t hs
  unfold sigDo at hs
  split at hs
  · refine (Option.some.inj hs) ▸ ?_
    exact inlS_ok (cfg := cfgAll g s) (cfg_ok rfl rfl rfl) (sigAll_ok h) (fn := Try.f73) (by kernel_rfl) (by kernel_rfl) (by kernel_rfl)
  · cases hs

/-- The words, as far as what was written is put in. -/
def nowN (ws : List Int) (its : List (List Int)) : Nat → List Int
  | 0 => ws
  | n + 1 => (nowN ws its n).set (prOf (its.getD n [])).Addr.toNat (prOf (its.getD n [])).Val

theorem nowN_len (ws : List Int) (its : List (List Int)) : ∀ n, (nowN ws its n).length = ws.length
  | 0 => rfl
  | n + 1 => by rw [nowN, List.length_set, nowN_len]

theorem nowN_get {ws : List Int} {its : List (List Int)} (hs : its.Pairwise (fun x y => keyOf x < keyOf y)) (hb : ∀ e ∈ its, 0 ≤ keyOf e ∧ keyOf e < (ws.length : Int)) {j : Nat} (hj : j < ws.length) :
    ∀ n, n ≤ its.length → (nowN ws its n).getD j 0 = (lookI (its.take n) j).getD (ws.getD j 0)
  | 0, _ => rfl
  | n + 1, hn => by
    have hn' : n < its.length := by omega
    have ih := nowN_get hs hb hj n (by omega)
    have hg : its.getD n [] = its[n] := by simp [List.getD, List.getElem?_eq_getElem hn']
    have hk := hb its[n] (List.getElem_mem hn')
    rw [List.take_succ_eq_append_getElem hn', lookI_append]
    simp only [nowN, hg]
    show ((nowN ws its n).set (keyOf its[n]).toNat (valOf its[n])).getD j 0 = _
    by_cases e : keyOf its[n] = (j : Int)
    · have h1 : (keyOf its[n]).toNat = j := by omega
      rw [h1]
      have h2 : lookI (its.take n) (j : Int) = none := lookI_none (fun y hy => by
        obtain ⟨i, hi, he⟩ := List.mem_take_iff_getElem.1 hy
        have h3 := List.pairwise_iff_getElem.1 hs i n (by omega) hn' (by omega)
        rw [he] at h3
        omega)
      rw [h2]
      simp only [lookI, if_pos e, Option.none_or, Option.getD_some]
      simp [List.getD, List.getElem?_set, nowN_len, hj]
    · have h1 : (keyOf its[n]).toNat ≠ j := by omega
      simp only [lookI, if_neg e, Option.or_none]
      rw [← ih, List.getD, List.getElem?_set_ne h1]
      rfl

theorem nowN_all {ws cur : List Int} {m : Int → Option Int} {nd : List Pr} {its : List (List Int)} (h : ViewOK ws cur m nd its) : nowN ws its its.length = cur := by
  apply List.ext_getElem?
  intro j
  by_cases hj : j < ws.length
  · have h1 := nowN_get h.sorted h.keys hj its.length (Nat.le_refl _)
    rw [List.take_length] at h1
    have h2 := h.cur j hj
    rw [← h2] at h1
    have l1 : j < (nowN ws its its.length).length := by rw [nowN_len]; exact hj
    have l2 : j < cur.length := by rw [h.len]; exact hj
    simp only [List.getD, List.getElem?_eq_getElem l1, List.getElem?_eq_getElem l2, Option.getD_some] at h1
    rw [List.getElem?_eq_getElem l1, List.getElem?_eq_getElem l2, h1]
  · rw [List.getElem?_eq_none (by rw [nowN_len]; omega), List.getElem?_eq_none (by rw [h.len]; omega)]

theorem prs_get {its : List (List Int)} {n : Nat} (h : n < its.length) : (its.map prOf).getD n ⟨0, 0⟩ = prOf (its.getD n []) := by
  simp [List.getD, h]

theorem pr_in {ws cur : List Int} {m : Int → Option Int} {nd : List Pr} {its : List (List Int)} (h : ViewOK ws cur m nd its) {n : Nat} (hn : n < its.length) : 0 ≤ (prOf (its.getD n [])).Addr ∧ (prOf (its.getD n [])).Addr < (ws.length : Int) := by
  have hg : its.getD n [] = its[n] := by simp [List.getD, List.getElem?_eq_getElem hn]
  rw [hg]
  exact h.keys _ (List.getElem_mem hn)
end Go.Rx
end

section
/- Views: Read and Write, told anew. -/
namespace Go.Rx
open Go.Proofs
def chainT : List Nat → PT → PT
  | [], t => t
  | i :: r, t => .op i (chainT r t)
theorem Req_all {e b c : Bool} {A : Prop} (he : e = true) (hb : b = true) (h : Req c A) : Req (e && (b && c)) A := by
  subst he; subst hb; exact h
def rdS : Spec := ⟨fun args H K => match args, H with
  | [.ptr 0 0, .ext (.int .i64 a)], [.pk 0 [ws, cur] xs [.row 1], .row 0 l true] => ws = l ∧ xs.length ≤ 2 ∧ Req (inR a ws.length) (K (vi (rd cur a)) [.pk 0 [ws, cur] xs [.row 1], .row 0 l true])
  | _, _ => False, false⟩
def wrS : Spec := ⟨fun args H K => match args, H with
  | [.ptr 0 0, .ext (.int .i64 a), .ext (.int .i64 x)], [.pk 0 [ws, cur] xs [.row 1], .row 0 l true] => ws = l ∧ xs.length ≤ 2 ∧ Req (inR a ws.length) (K (.tup []) [.pk 0 [ws, wr cur a x] xs [.row 1], .row 0 l true])
  | _, _ => False, false⟩
theorem rd_ok : SpecOK Try.prog elTT 90 rdS := spec_mono (fun args H K h => by
  unfold rdS at h
  simp only at h
  split at h
  · obtain ⟨h1, h2, h3⟩ := h
    subst h1
    unfold readS
    simp only
    exact Req_all (eqL_self _) (Nat.ble_eq_true_of_le h2) h3
  · exact h.elim) read_ok
theorem wr_ok : SpecOK Try.prog elTT 91 wrS := spec_mono (fun args H K h => by
  unfold wrS at h
  simp only at h
  split at h
  · obtain ⟨h1, h2, h3⟩ := h
    subst h1
    unfold writeS
    simp only
    exact Req_all (eqL_self _) (Nat.ble_eq_true_of_le h2) h3
  · exact h.elim) write_ok
end Go.Rx
end

section
/- Contracts. -/
namespace Go.Rx
open Go.Proofs
set_option maxRecDepth 100000
set_option maxHeartbeats 4000000
/-! (assart/layout.Layout).Config -/
def tr_layout_Layout_Config (m_ : T_layout_Layout → Option (T_api_Config)) (args : List V) (H : Heap) (K : V → Heap → Prop) : Prop :=
  aC args fun a0 r => aN r <| aAgg a0 fun c0 => d_layout_Layout c0 fun l2 => aN H <| So (m_ l2) fun x => K (.agg (e_api_Config (x))) []
def sp_layout_Layout_Config (m_ : T_layout_Layout → Option (T_api_Config)) : Spec := ⟨tr_layout_Layout_Config m_, (true : Bool)⟩

/-! (assart/layout.Layout).Words -/
def tr_layout_Layout_Words (m_ : T_layout_Layout → Option (Int)) (args : List V) (H : Heap) (K : V → Heap → Prop) : Prop :=
  aC args fun a0 r => aN r <| aAgg a0 fun c0 => d_layout_Layout c0 fun l2 => aN H <| So (m_ l2) fun x => K (vi (x)) []
def sp_layout_Layout_Words (m_ : T_layout_Layout → Option (Int)) : Spec := ⟨tr_layout_Layout_Words m_, (true : Bool)⟩

/-! assart/layout.chunks -/
def tr_layout_chunks (m_ : Int → Option (Int)) (args : List V) (H : Heap) (K : V → Heap → Prop) : Prop :=
  aC args fun a0 r => aN r <| aInt a0 fun pages => aN H <| So (m_ pages) fun x => K (vi (x)) []
def sp_layout_chunks (m_ : Int → Option (Int)) : Spec := ⟨tr_layout_chunks m_, (true : Bool)⟩

/-! (assart/layout.Layout).Chunks -/
def tr_layout_Layout_Chunks (m_ : T_layout_Layout → Option (Int)) (args : List V) (H : Heap) (K : V → Heap → Prop) : Prop :=
  aC args fun a0 r => aN r <| aAgg a0 fun c0 => d_layout_Layout c0 fun l2 => aN H <| So (m_ l2) fun x => K (vi (x)) []
def sp_layout_Layout_Chunks (m_ : T_layout_Layout → Option (Int)) : Spec := ⟨tr_layout_Layout_Chunks m_, (true : Bool)⟩

/-! (assart/layout.Layout).Table -/
def tr_layout_Layout_Table (m_ : T_layout_Layout → Int → Option (Int)) (args : List V) (H : Heap) (K : V → Heap → Prop) : Prop :=
  aC args fun a0 r => aC r fun a1 r => aN r <| aAgg a0 fun c0 => d_layout_Layout c0 fun l2 => aInt a1 fun k => aN H <| So (m_ l2 k) fun x => K (vi (x)) []
def sp_layout_Layout_Table (m_ : T_layout_Layout → Int → Option (Int)) : Spec := ⟨tr_layout_Layout_Table m_, (true : Bool)⟩

/-! (assart/layout.Layout).Kind -/
/-! (assart/layout.Layout).Count -/
/-! (assart/layout.Layout).Bits -/
/-! (assart/layout.Layout).Next -/
/-! (assart/layout.Layout).Prev -/
/-! (assart/layout.Layout).none -/
/-! (assart/layout.Layout).Head -/
/-! (assart/layout.limit).holds -/
def tr_layout_limit_holds (m_ : T_layout_limit → Option (Bool)) (args : List V) (H : Heap) (K : V → Heap → Prop) : Prop :=
  aC args fun a0 r => aN r <| aAgg a0 fun c0 => d_layout_limit c0 fun xv => aN H <| So (m_ xv) fun x => K (vb (x)) []
def sp_layout_limit_holds (m_ : T_layout_limit → Option (Bool)) : Spec := ⟨tr_layout_limit_holds m_, (true : Bool)⟩

/-! assart/layout.Check -/
def tr_layout_Check (m_ : T_api_Config → Option (Int)) (args : List V) (H : Heap) (K : V → Heap → Prop) : Prop :=
  aC args fun a0 r => aN r <| aAgg a0 fun c0 => d_api_Config c0 fun c => aN H <| So (m_ c) fun x => K (vi (x)) []
def sp_layout_Check (m_ : T_api_Config → Option (Int)) : Spec := ⟨tr_layout_Check m_, (true : Bool)⟩

/-! assart/layout.Of -/
def tr_layout_Of (m_ : T_api_Config → Option (T_layout_Layout × Int)) (args : List V) (H : Heap) (K : V → Heap → Prop) : Prop :=
  aC args fun a0 r => aN r <| aAgg a0 fun c0 => d_api_Config c0 fun c => aN H <| So (m_ c) fun x => K (.tup [.agg (e_layout_Layout (x.1)), vi (x.2)]) []
def sp_layout_Of (m_ : T_api_Config → Option (T_layout_Layout × Int)) : Spec := ⟨tr_layout_Of m_, (true : Bool)⟩

noncomputable def cfg_layout_Layout_Config  : Cfg := { cfgB with
  sigs := sigN }

noncomputable def cfg_layout_Layout_Words  : Cfg := { cfgB with
  sigs := sigN }

noncomputable def cfg_layout_chunks  : Cfg := { cfgB with
  sigs := sigN }

noncomputable def cfg_layout_Layout_Chunks (m_layout_chunks : Int → Option (Int)) : Cfg := { cfgB with
  sigs := (sigC 83 (sp_layout_chunks m_layout_chunks) sigN) }

noncomputable def cfg_layout_Layout_Table (m_layout_Layout_Chunks : T_layout_Layout → Option (Int)) : Cfg := { cfgB with
  sigs := (sigC 30 (sp_layout_Layout_Chunks m_layout_Layout_Chunks) (sigC 84 (inlS cfgB Try.f84) sigN)),
  plan := fun r => match r with | 1 => some (List.range 6, 0) | _ => none }

noncomputable def cfg_layout_limit_holds  : Cfg := { cfgB with
  sigs := sigN }

noncomputable def cfg_layout_Check (m_layout_limit_holds : T_layout_limit → Option (Bool)) : Cfg := { cfgB with
  sigs := (sigC 149 (sp_layout_limit_holds m_layout_limit_holds) sigN),
  keep := fun r => match r with | 2 => some [(38, some 38), (39, none), (40, none)] | _ => none,
  unroll := fun r => match r with | 2 => some 12 | _ => none }

noncomputable def cfg_layout_Of (m_layout_Check : T_api_Config → Option (Int)) (m_layout_chunks : Int → Option (Int)) : Cfg := { cfgB with
  sigs := (sigC 118 (sp_layout_Check m_layout_Check) (sigC 83 (sp_layout_chunks m_layout_chunks) sigN)),
  keep := fun r => match r with | 8 => some [(1, none), (2, none), (5, none), (6, none), (23, some 0), (24, none), (25, none)] | 19 => some [(2, none), (5, none), (6, none), (9, none), (59, none)] | _ => none,
  unroll := fun r => match r with | 8 => some 6 | 19 => some 12 | _ => none }

theorem nf_layout_Layout_Config (l2 : T_layout_Layout) (K : V → Heap → Prop) : (exF cfg_layout_Layout_Config Try.f27 [.agg (e_layout_Layout l2)] [] K) = (
    K (.agg (e_api_Config (T_layout_Layout.c l2))) []) := by
  kernel_rfl

theorem nf_layout_Layout_Words (l2 : T_layout_Layout) (K : V → Heap → Prop) : (exF cfg_layout_Layout_Words Try.f69 [.agg (e_layout_Layout l2)] [] K) = (
    K (vi (T_layout_Layout.at_11 l2)) []) := by
  kernel_rfl

theorem nf_layout_chunks (pages : Int) (K : V → Heap → Prop) : (exF cfg_layout_chunks Try.f83 [vi pages] [] K) = (
    K (vi (IntKind.wrap IntKind.i64 (Int.tdiv (IntKind.wrap IntKind.i64 (IntKind.wrap IntKind.i64 (pages + 4) - 1)) 4))) []) := by
  kernel_rfl

theorem nf_layout_Layout_Chunks (m_layout_chunks : Int → Option (Int)) (l2 : T_layout_Layout) (K : V → Heap → Prop) : (exF (cfg_layout_Layout_Chunks m_layout_chunks) Try.f30 [.agg (e_layout_Layout l2)] [] K) = (
    So (m_layout_chunks (T_api_Config.Pages (T_layout_Layout.c l2))) (fun (y0 : Int) => (K (vi (y0)) []))) := by
  kernel_rfl

theorem nf_layout_Layout_Table (m_layout_Layout_Chunks : T_layout_Layout → Option (Int)) (l2 : T_layout_Layout) (k : Int) (K : V → Heap → Prop) : (exF (cfg_layout_Layout_Table m_layout_Layout_Chunks) Try.f31 [.agg (e_layout_Layout l2), vi k] [] K) = (
    So (m_layout_Layout_Chunks l2) (fun (y0 : Int) => (br (Decidable.decide (k < 0)) (K (vi (0)) []) (br (Decidable.decide (k ≥ y0)) (K (vi (0)) []) (K (vi (IntKind.wrap IntKind.i64 (T_layout_Layout.at_0 l2 + k))) []))))) := by
  kernel_rfl

theorem nf_layout_limit_holds (xv : T_layout_limit) (K : V → Heap → Prop) : (exF cfg_layout_limit_holds Try.f149 [.agg (e_layout_limit xv)] [] K) = (
    br (Decidable.decide (T_layout_limit.n xv ≥ T_layout_limit.low xv)) (K (vb (Decidable.decide (T_layout_limit.n xv ≤ T_layout_limit.high xv))) []) (K (vb (Bool.false)) [])) := by
  kernel_rfl

theorem nf_layout_Check (m_layout_limit_holds : T_layout_limit → Option (Bool)) (c : T_api_Config) (K : V → Heap → Prop) : (exF (cfg_layout_Check m_layout_limit_holds) Try.f118 [.agg (e_api_Config c)] [] K) = (
    So (m_layout_limit_holds (T_layout_limit.mk (T_api_Config.Workers c) 1 64)) (fun (y0 : Bool) => (br (!y0) (K (vi (2)) []) (So (m_layout_limit_holds (T_layout_limit.mk (T_api_Config.CPUs c) 1 8)) (fun (y1 : Bool) => (br (!y1) (K (vi (2)) []) (So (m_layout_limit_holds (T_layout_limit.mk (T_api_Config.Pages c) 1 256)) (fun (y2 : Bool) => (br (!y2) (K (vi (2)) []) (So (m_layout_limit_holds (T_layout_limit.mk (T_api_Config.Stripes c) 1 64)) (fun (y3 : Bool) => (br (!y3) (K (vi (2)) []) (So (m_layout_limit_holds (T_layout_limit.mk (T_api_Config.Tries c) 0 16)) (fun (y4 : Bool) => (br (!y4) (K (vi (2)) []) (So (m_layout_limit_holds (T_layout_limit.mk (T_api_Config.Wait c) 0 64)) (fun (y5 : Bool) => (br (!y5) (K (vi (2)) []) (So (m_layout_limit_holds (T_layout_limit.mk (T_api_Config.Clock c) 1 1099511627776)) (fun (y6 : Bool) => (br (!y6) (K (vi (2)) []) (So (m_layout_limit_holds (T_layout_limit.mk (T_api_Config.Private c) 1 8)) (fun (y7 : Bool) => (br (!y7) (K (vi (2)) []) (So (m_layout_limit_holds (T_layout_limit.mk (T_api_Config.Cache c) 0 8)) (fun (y8 : Bool) => (br (!y8) (K (vi (2)) []) (So (m_layout_limit_holds (T_layout_limit.mk (T_api_Config.Bin c) 0 16)) (fun (y9 : Bool) => (br (!y9) (K (vi (2)) []) (So (m_layout_limit_holds (T_layout_limit.mk (T_api_Config.Batch c) 1 8)) (fun (y10 : Bool) => (br (!y10) (K (vi (2)) []) (K (vi (0)) [])))))))))))))))))))))))))))))))))) := by
  kernel_rfl

theorem nf_layout_Of (m_layout_Check : T_api_Config → Option (Int)) (m_layout_chunks : Int → Option (Int)) (c : T_api_Config) (K : V → Heap → Prop) : (exF (cfg_layout_Of m_layout_Check m_layout_chunks) Try.f68 [.agg (e_api_Config c)] [] K) = (
    So (m_layout_Check c) (fun (y0 : Int) => (br (y0 != 0) (K (.tup [.agg [vi (0), vi (0), vi (0), vi (0), vi (0), vi (0), vi (0), vi (0), vi (0), vi (0), vi (0), vi (0), vi (0), vi (0), vi (0), vi (0), vi (0), vi (0), vi (0), vi (0), vi (0), vi (0), vi (0)], vi (y0)]) []) (So (m_layout_chunks (T_api_Config.Pages c)) (fun (y1 : Int) => (K (.tup [.agg (e_api_Config c ++ [vi (IntKind.wrap IntKind.i64 (3 + T_api_Config.Stripes c)), vi (IntKind.wrap IntKind.i64 (IntKind.wrap IntKind.i64 (3 + T_api_Config.Stripes c) + y1)), vi (IntKind.wrap IntKind.i64 (IntKind.wrap IntKind.i64 (IntKind.wrap IntKind.i64 (3 + T_api_Config.Stripes c) + y1) + T_api_Config.Pages c)), vi (IntKind.wrap IntKind.i64 (IntKind.wrap IntKind.i64 (IntKind.wrap IntKind.i64 (IntKind.wrap IntKind.i64 (3 + T_api_Config.Stripes c) + y1) + T_api_Config.Pages c) + T_api_Config.Pages c)), vi (IntKind.wrap IntKind.i64 (IntKind.wrap IntKind.i64 (IntKind.wrap IntKind.i64 (IntKind.wrap IntKind.i64 (IntKind.wrap IntKind.i64 (3 + T_api_Config.Stripes c) + y1) + T_api_Config.Pages c) + T_api_Config.Pages c) + T_api_Config.Pages c)), vi (IntKind.wrap IntKind.i64 (IntKind.wrap IntKind.i64 (IntKind.wrap IntKind.i64 (IntKind.wrap IntKind.i64 (IntKind.wrap IntKind.i64 (IntKind.wrap IntKind.i64 (3 + T_api_Config.Stripes c) + y1) + T_api_Config.Pages c) + T_api_Config.Pages c) + T_api_Config.Pages c) + T_api_Config.Pages c)), vi (IntKind.wrap IntKind.i64 (IntKind.wrap IntKind.i64 (IntKind.wrap IntKind.i64 (IntKind.wrap IntKind.i64 (IntKind.wrap IntKind.i64 (IntKind.wrap IntKind.i64 (IntKind.wrap IntKind.i64 (3 + T_api_Config.Stripes c) + y1) + T_api_Config.Pages c) + T_api_Config.Pages c) + T_api_Config.Pages c) + T_api_Config.Pages c) + T_api_Config.Pages c)), vi (IntKind.wrap IntKind.i64 (IntKind.wrap IntKind.i64 (IntKind.wrap IntKind.i64 (IntKind.wrap IntKind.i64 (IntKind.wrap IntKind.i64 (IntKind.wrap IntKind.i64 (IntKind.wrap IntKind.i64 (IntKind.wrap IntKind.i64 (3 + T_api_Config.Stripes c) + y1) + T_api_Config.Pages c) + T_api_Config.Pages c) + T_api_Config.Pages c) + T_api_Config.Pages c) + T_api_Config.Pages c) + 62)), vi (IntKind.wrap IntKind.i64 (IntKind.wrap IntKind.i64 (IntKind.wrap IntKind.i64 (IntKind.wrap IntKind.i64 (IntKind.wrap IntKind.i64 (IntKind.wrap IntKind.i64 (IntKind.wrap IntKind.i64 (IntKind.wrap IntKind.i64 (IntKind.wrap IntKind.i64 (3 + T_api_Config.Stripes c) + y1) + T_api_Config.Pages c) + T_api_Config.Pages c) + T_api_Config.Pages c) + T_api_Config.Pages c) + T_api_Config.Pages c) + 62) + IntKind.wrap IntKind.i64 (IntKind.wrap IntKind.i64 (T_api_Config.CPUs c * 5) * IntKind.wrap IntKind.i64 (T_api_Config.Cache c + 1)))), vi (IntKind.wrap IntKind.i64 (IntKind.wrap IntKind.i64 (IntKind.wrap IntKind.i64 (IntKind.wrap IntKind.i64 (IntKind.wrap IntKind.i64 (IntKind.wrap IntKind.i64 (IntKind.wrap IntKind.i64 (IntKind.wrap IntKind.i64 (IntKind.wrap IntKind.i64 (IntKind.wrap IntKind.i64 (3 + T_api_Config.Stripes c) + y1) + T_api_Config.Pages c) + T_api_Config.Pages c) + T_api_Config.Pages c) + T_api_Config.Pages c) + T_api_Config.Pages c) + 62) + IntKind.wrap IntKind.i64 (IntKind.wrap IntKind.i64 (T_api_Config.CPUs c * 5) * IntKind.wrap IntKind.i64 (T_api_Config.Cache c + 1))) + IntKind.wrap IntKind.i64 (5 * IntKind.wrap IntKind.i64 (T_api_Config.Bin c + 1)))), vi (IntKind.wrap IntKind.i64 (IntKind.wrap IntKind.i64 (Int.tdiv (IntKind.wrap IntKind.i64 (IntKind.wrap IntKind.i64 (IntKind.wrap IntKind.i64 (IntKind.wrap IntKind.i64 (IntKind.wrap IntKind.i64 (IntKind.wrap IntKind.i64 (IntKind.wrap IntKind.i64 (IntKind.wrap IntKind.i64 (IntKind.wrap IntKind.i64 (IntKind.wrap IntKind.i64 (IntKind.wrap IntKind.i64 (IntKind.wrap IntKind.i64 (IntKind.wrap IntKind.i64 (3 + T_api_Config.Stripes c) + y1) + T_api_Config.Pages c) + T_api_Config.Pages c) + T_api_Config.Pages c) + T_api_Config.Pages c) + T_api_Config.Pages c) + 62) + IntKind.wrap IntKind.i64 (IntKind.wrap IntKind.i64 (T_api_Config.CPUs c * 5) * IntKind.wrap IntKind.i64 (T_api_Config.Cache c + 1))) + IntKind.wrap IntKind.i64 (5 * IntKind.wrap IntKind.i64 (T_api_Config.Bin c + 1))) + IntKind.wrap IntKind.i64 (T_api_Config.Pages c * 32)) + 128) - 1)) 128) * 128)), vi (IntKind.wrap IntKind.i64 (IntKind.wrap IntKind.i64 (IntKind.wrap IntKind.i64 (Int.tdiv (IntKind.wrap IntKind.i64 (IntKind.wrap IntKind.i64 (IntKind.wrap IntKind.i64 (IntKind.wrap IntKind.i64 (IntKind.wrap IntKind.i64 (IntKind.wrap IntKind.i64 (IntKind.wrap IntKind.i64 (IntKind.wrap IntKind.i64 (IntKind.wrap IntKind.i64 (IntKind.wrap IntKind.i64 (IntKind.wrap IntKind.i64 (IntKind.wrap IntKind.i64 (IntKind.wrap IntKind.i64 (3 + T_api_Config.Stripes c) + y1) + T_api_Config.Pages c) + T_api_Config.Pages c) + T_api_Config.Pages c) + T_api_Config.Pages c) + T_api_Config.Pages c) + 62) + IntKind.wrap IntKind.i64 (IntKind.wrap IntKind.i64 (T_api_Config.CPUs c * 5) * IntKind.wrap IntKind.i64 (T_api_Config.Cache c + 1))) + IntKind.wrap IntKind.i64 (5 * IntKind.wrap IntKind.i64 (T_api_Config.Bin c + 1))) + IntKind.wrap IntKind.i64 (T_api_Config.Pages c * 32)) + 128) - 1)) 128) * 128) + IntKind.wrap IntKind.i64 (T_api_Config.Pages c * 32)))]), vi (0)]) [])))))) := by
  kernel_rfl

noncomputable def m_layout_Layout_Config (l2 : T_layout_Layout) : Option (T_api_Config) :=
  some (((T_layout_Layout.c l2)))

noncomputable def m_layout_Layout_Words (l2 : T_layout_Layout) : Option (Int) :=
  some ((T_layout_Layout.at_11 l2))

noncomputable def m_layout_chunks (pages : Int) : Option (Int) :=
  some ((IntKind.wrap IntKind.i64 (Int.tdiv (IntKind.wrap IntKind.i64 (IntKind.wrap IntKind.i64 (pages + 4) - 1)) 4)))

noncomputable def m_layout_Layout_Chunks (l2 : T_layout_Layout) : Option (Int) :=
  ((m_layout_chunks (T_api_Config.Pages (T_layout_Layout.c l2))).bind fun y0 => some ((y0)))

noncomputable def m_layout_Layout_Table (l2 : T_layout_Layout) (k : Int) : Option (Int) :=
  ((m_layout_Layout_Chunks l2).bind fun y0 => (bif (Decidable.decide (k < 0)) then some ((0)) else (bif (Decidable.decide (k ≥ y0)) then some ((0)) else some ((IntKind.wrap IntKind.i64 (T_layout_Layout.at_0 l2 + k))))))

noncomputable def m_layout_limit_holds (xv : T_layout_limit) : Option (Bool) :=
  (bif (Decidable.decide (T_layout_limit.n xv ≥ T_layout_limit.low xv)) then some ((Decidable.decide (T_layout_limit.n xv ≤ T_layout_limit.high xv))) else some ((Bool.false)))

noncomputable def m_layout_Check (c : T_api_Config) : Option (Int) :=
  ((m_layout_limit_holds (T_layout_limit.mk (T_api_Config.Workers c) 1 64)).bind fun y0 => (bif (!y0) then some ((2)) else ((m_layout_limit_holds (T_layout_limit.mk (T_api_Config.CPUs c) 1 8)).bind fun y1 => (bif (!y1) then some ((2)) else ((m_layout_limit_holds (T_layout_limit.mk (T_api_Config.Pages c) 1 256)).bind fun y2 => (bif (!y2) then some ((2)) else ((m_layout_limit_holds (T_layout_limit.mk (T_api_Config.Stripes c) 1 64)).bind fun y3 => (bif (!y3) then some ((2)) else ((m_layout_limit_holds (T_layout_limit.mk (T_api_Config.Tries c) 0 16)).bind fun y4 => (bif (!y4) then some ((2)) else ((m_layout_limit_holds (T_layout_limit.mk (T_api_Config.Wait c) 0 64)).bind fun y5 => (bif (!y5) then some ((2)) else ((m_layout_limit_holds (T_layout_limit.mk (T_api_Config.Clock c) 1 1099511627776)).bind fun y6 => (bif (!y6) then some ((2)) else ((m_layout_limit_holds (T_layout_limit.mk (T_api_Config.Private c) 1 8)).bind fun y7 => (bif (!y7) then some ((2)) else ((m_layout_limit_holds (T_layout_limit.mk (T_api_Config.Cache c) 0 8)).bind fun y8 => (bif (!y8) then some ((2)) else ((m_layout_limit_holds (T_layout_limit.mk (T_api_Config.Bin c) 0 16)).bind fun y9 => (bif (!y9) then some ((2)) else ((m_layout_limit_holds (T_layout_limit.mk (T_api_Config.Batch c) 1 8)).bind fun y10 => (bif (!y10) then some ((2)) else some ((0))))))))))))))))))))))))

noncomputable def m_layout_Of (c : T_api_Config) : Option (T_layout_Layout × Int) :=
  ((m_layout_Check c).bind fun y0 => (bif (y0 != 0) then some ((((T_layout_Layout.mk (T_api_Config.mk (0) (0) (0) (0) (0) (0) (0) (0) (0) (0) (0)) (0) (0) (0) (0) (0) (0) (0) (0) (0) (0) (0) (0))), (y0))) else ((m_layout_chunks (T_api_Config.Pages c)).bind fun y1 => some ((((T_layout_Layout.mk (c) (IntKind.wrap IntKind.i64 (3 + T_api_Config.Stripes c)) (IntKind.wrap IntKind.i64 (IntKind.wrap IntKind.i64 (3 + T_api_Config.Stripes c) + y1)) (IntKind.wrap IntKind.i64 (IntKind.wrap IntKind.i64 (IntKind.wrap IntKind.i64 (3 + T_api_Config.Stripes c) + y1) + T_api_Config.Pages c)) (IntKind.wrap IntKind.i64 (IntKind.wrap IntKind.i64 (IntKind.wrap IntKind.i64 (IntKind.wrap IntKind.i64 (3 + T_api_Config.Stripes c) + y1) + T_api_Config.Pages c) + T_api_Config.Pages c)) (IntKind.wrap IntKind.i64 (IntKind.wrap IntKind.i64 (IntKind.wrap IntKind.i64 (IntKind.wrap IntKind.i64 (IntKind.wrap IntKind.i64 (3 + T_api_Config.Stripes c) + y1) + T_api_Config.Pages c) + T_api_Config.Pages c) + T_api_Config.Pages c)) (IntKind.wrap IntKind.i64 (IntKind.wrap IntKind.i64 (IntKind.wrap IntKind.i64 (IntKind.wrap IntKind.i64 (IntKind.wrap IntKind.i64 (IntKind.wrap IntKind.i64 (3 + T_api_Config.Stripes c) + y1) + T_api_Config.Pages c) + T_api_Config.Pages c) + T_api_Config.Pages c) + T_api_Config.Pages c)) (IntKind.wrap IntKind.i64 (IntKind.wrap IntKind.i64 (IntKind.wrap IntKind.i64 (IntKind.wrap IntKind.i64 (IntKind.wrap IntKind.i64 (IntKind.wrap IntKind.i64 (IntKind.wrap IntKind.i64 (3 + T_api_Config.Stripes c) + y1) + T_api_Config.Pages c) + T_api_Config.Pages c) + T_api_Config.Pages c) + T_api_Config.Pages c) + T_api_Config.Pages c)) (IntKind.wrap IntKind.i64 (IntKind.wrap IntKind.i64 (IntKind.wrap IntKind.i64 (IntKind.wrap IntKind.i64 (IntKind.wrap IntKind.i64 (IntKind.wrap IntKind.i64 (IntKind.wrap IntKind.i64 (IntKind.wrap IntKind.i64 (3 + T_api_Config.Stripes c) + y1) + T_api_Config.Pages c) + T_api_Config.Pages c) + T_api_Config.Pages c) + T_api_Config.Pages c) + T_api_Config.Pages c) + 62)) (IntKind.wrap IntKind.i64 (IntKind.wrap IntKind.i64 (IntKind.wrap IntKind.i64 (IntKind.wrap IntKind.i64 (IntKind.wrap IntKind.i64 (IntKind.wrap IntKind.i64 (IntKind.wrap IntKind.i64 (IntKind.wrap IntKind.i64 (IntKind.wrap IntKind.i64 (3 + T_api_Config.Stripes c) + y1) + T_api_Config.Pages c) + T_api_Config.Pages c) + T_api_Config.Pages c) + T_api_Config.Pages c) + T_api_Config.Pages c) + 62) + IntKind.wrap IntKind.i64 (IntKind.wrap IntKind.i64 (T_api_Config.CPUs c * 5) * IntKind.wrap IntKind.i64 (T_api_Config.Cache c + 1)))) (IntKind.wrap IntKind.i64 (IntKind.wrap IntKind.i64 (IntKind.wrap IntKind.i64 (IntKind.wrap IntKind.i64 (IntKind.wrap IntKind.i64 (IntKind.wrap IntKind.i64 (IntKind.wrap IntKind.i64 (IntKind.wrap IntKind.i64 (IntKind.wrap IntKind.i64 (IntKind.wrap IntKind.i64 (3 + T_api_Config.Stripes c) + y1) + T_api_Config.Pages c) + T_api_Config.Pages c) + T_api_Config.Pages c) + T_api_Config.Pages c) + T_api_Config.Pages c) + 62) + IntKind.wrap IntKind.i64 (IntKind.wrap IntKind.i64 (T_api_Config.CPUs c * 5) * IntKind.wrap IntKind.i64 (T_api_Config.Cache c + 1))) + IntKind.wrap IntKind.i64 (5 * IntKind.wrap IntKind.i64 (T_api_Config.Bin c + 1)))) (IntKind.wrap IntKind.i64 (IntKind.wrap IntKind.i64 (Int.tdiv (IntKind.wrap IntKind.i64 (IntKind.wrap IntKind.i64 (IntKind.wrap IntKind.i64 (IntKind.wrap IntKind.i64 (IntKind.wrap IntKind.i64 (IntKind.wrap IntKind.i64 (IntKind.wrap IntKind.i64 (IntKind.wrap IntKind.i64 (IntKind.wrap IntKind.i64 (IntKind.wrap IntKind.i64 (IntKind.wrap IntKind.i64 (IntKind.wrap IntKind.i64 (IntKind.wrap IntKind.i64 (3 + T_api_Config.Stripes c) + y1) + T_api_Config.Pages c) + T_api_Config.Pages c) + T_api_Config.Pages c) + T_api_Config.Pages c) + T_api_Config.Pages c) + 62) + IntKind.wrap IntKind.i64 (IntKind.wrap IntKind.i64 (T_api_Config.CPUs c * 5) * IntKind.wrap IntKind.i64 (T_api_Config.Cache c + 1))) + IntKind.wrap IntKind.i64 (5 * IntKind.wrap IntKind.i64 (T_api_Config.Bin c + 1))) + IntKind.wrap IntKind.i64 (T_api_Config.Pages c * 32)) + 128) - 1)) 128) * 128)) (IntKind.wrap IntKind.i64 (IntKind.wrap IntKind.i64 (IntKind.wrap IntKind.i64 (Int.tdiv (IntKind.wrap IntKind.i64 (IntKind.wrap IntKind.i64 (IntKind.wrap IntKind.i64 (IntKind.wrap IntKind.i64 (IntKind.wrap IntKind.i64 (IntKind.wrap IntKind.i64 (IntKind.wrap IntKind.i64 (IntKind.wrap IntKind.i64 (IntKind.wrap IntKind.i64 (IntKind.wrap IntKind.i64 (IntKind.wrap IntKind.i64 (IntKind.wrap IntKind.i64 (IntKind.wrap IntKind.i64 (3 + T_api_Config.Stripes c) + y1) + T_api_Config.Pages c) + T_api_Config.Pages c) + T_api_Config.Pages c) + T_api_Config.Pages c) + T_api_Config.Pages c) + 62) + IntKind.wrap IntKind.i64 (IntKind.wrap IntKind.i64 (T_api_Config.CPUs c * 5) * IntKind.wrap IntKind.i64 (T_api_Config.Cache c + 1))) + IntKind.wrap IntKind.i64 (5 * IntKind.wrap IntKind.i64 (T_api_Config.Bin c + 1))) + IntKind.wrap IntKind.i64 (T_api_Config.Pages c * 32)) + 128) - 1)) 128) * 128) + IntKind.wrap IntKind.i64 (T_api_Config.Pages c * 32))))), (0))))))

attribute [local irreducible] Loop ex exF contK roundK retK at_ bodyOf mkEnv
theorem ok_layout_Layout_Config : SpecOK Try.prog elTT 27 (sp_layout_Layout_Config m_layout_Layout_Config) := by
  refine spec_of_exF (cfg := cfg_layout_Layout_Config) (cfg_ok rfl rfl rfl) sig_nil (fn := Try.f27) (by kernel_rfl) (by kernel_rfl) (by kernel_rfl) ?_
  intro args H K h
  change tr_layout_Layout_Config m_layout_Layout_Config args H K at h
  unfold tr_layout_Layout_Config at h
  replace h := aC_el h
  obtain ⟨a0, _, rfl, h⟩ := h
  replace h := aN_el h
  obtain ⟨rfl, h⟩ := h
  replace h := aAgg_el h
  obtain ⟨c0, rfl, h⟩ := h
  replace h := d_layout_Layout_el h
  obtain ⟨l2, rfl, h⟩ := h
  replace h := aN_el h
  obtain ⟨rfl, h⟩ := h
  refine Eq.mpr (nf_layout_Layout_Config l2 K) ?_
  unfold m_layout_Layout_Config at h
  revert h
  exact fun h => h

theorem ok_layout_Layout_Words : SpecOK Try.prog elTT 69 (sp_layout_Layout_Words m_layout_Layout_Words) := by
  refine spec_of_exF (cfg := cfg_layout_Layout_Words) (cfg_ok rfl rfl rfl) sig_nil (fn := Try.f69) (by kernel_rfl) (by kernel_rfl) (by kernel_rfl) ?_
  intro args H K h
  change tr_layout_Layout_Words m_layout_Layout_Words args H K at h
  unfold tr_layout_Layout_Words at h
  replace h := aC_el h
  obtain ⟨a0, _, rfl, h⟩ := h
  replace h := aN_el h
  obtain ⟨rfl, h⟩ := h
  replace h := aAgg_el h
  obtain ⟨c0, rfl, h⟩ := h
  replace h := d_layout_Layout_el h
  obtain ⟨l2, rfl, h⟩ := h
  replace h := aN_el h
  obtain ⟨rfl, h⟩ := h
  refine Eq.mpr (nf_layout_Layout_Words l2 K) ?_
  unfold m_layout_Layout_Words at h
  revert h
  exact fun h => h

theorem ok_layout_chunks : SpecOK Try.prog elTT 83 (sp_layout_chunks m_layout_chunks) := by
  refine spec_of_exF (cfg := cfg_layout_chunks) (cfg_ok rfl rfl rfl) sig_nil (fn := Try.f83) (by kernel_rfl) (by kernel_rfl) (by kernel_rfl) ?_
  intro args H K h
  change tr_layout_chunks m_layout_chunks args H K at h
  unfold tr_layout_chunks at h
  replace h := aC_el h
  obtain ⟨a0, _, rfl, h⟩ := h
  replace h := aN_el h
  obtain ⟨rfl, h⟩ := h
  replace h := aInt_el h
  obtain ⟨pages, rfl, h⟩ := h
  replace h := aN_el h
  obtain ⟨rfl, h⟩ := h
  refine Eq.mpr (nf_layout_chunks pages K) ?_
  unfold m_layout_chunks at h
  revert h
  exact fun h => h

theorem ok_layout_Layout_Chunks : SpecOK Try.prog elTT 30 (sp_layout_Layout_Chunks m_layout_Layout_Chunks) := by
  refine spec_of_exF (cfg := (cfg_layout_Layout_Chunks m_layout_chunks)) (cfg_ok rfl rfl rfl) (sig_cons ok_layout_chunks sig_nil) (fn := Try.f30) (by kernel_rfl) (by kernel_rfl) (by kernel_rfl) ?_
  intro args H K h
  change tr_layout_Layout_Chunks m_layout_Layout_Chunks args H K at h
  unfold tr_layout_Layout_Chunks at h
  replace h := aC_el h
  obtain ⟨a0, _, rfl, h⟩ := h
  replace h := aN_el h
  obtain ⟨rfl, h⟩ := h
  replace h := aAgg_el h
  obtain ⟨c0, rfl, h⟩ := h
  replace h := d_layout_Layout_el h
  obtain ⟨l2, rfl, h⟩ := h
  replace h := aN_el h
  obtain ⟨rfl, h⟩ := h
  refine Eq.mpr (nf_layout_Layout_Chunks m_layout_chunks l2 K) ?_
  unfold m_layout_Layout_Chunks at h
  revert h
  exact bind_So fun y0 => fun h => h

theorem ok_layout_Layout_Table : SpecOK Try.prog elTT 31 (sp_layout_Layout_Table m_layout_Layout_Table) := by
  refine spec_of_exF (cfg := (cfg_layout_Layout_Table m_layout_Layout_Chunks)) (cfg_ok rfl rfl rfl) (sig_cons ok_layout_Layout_Chunks (sig_cons (inlS_ok (cfg := cfgB) (cfg_ok rfl rfl rfl) (nosig rfl) (by kernel_rfl) (by kernel_rfl) (by kernel_rfl)) sig_nil)) (fn := Try.f31) (by kernel_rfl) (by kernel_rfl) (by kernel_rfl) ?_
  intro args H K h
  change tr_layout_Layout_Table m_layout_Layout_Table args H K at h
  unfold tr_layout_Layout_Table at h
  replace h := aC_el h
  obtain ⟨a0, _, rfl, h⟩ := h
  replace h := aC_el h
  obtain ⟨a1, _, rfl, h⟩ := h
  replace h := aN_el h
  obtain ⟨rfl, h⟩ := h
  replace h := aAgg_el h
  obtain ⟨c0, rfl, h⟩ := h
  replace h := d_layout_Layout_el h
  obtain ⟨l2, rfl, h⟩ := h
  replace h := aInt_el h
  obtain ⟨k, rfl, h⟩ := h
  replace h := aN_el h
  obtain ⟨rfl, h⟩ := h
  refine Eq.mpr (nf_layout_Layout_Table m_layout_Layout_Chunks l2 k K) ?_
  unfold m_layout_Layout_Table at h
  revert h
  exact bind_So fun y0 => br_So (fun h => h) (br_So (fun h => h) (fun h => h))

theorem ok_layout_limit_holds : SpecOK Try.prog elTT 149 (sp_layout_limit_holds m_layout_limit_holds) := by
  refine spec_of_exF (cfg := cfg_layout_limit_holds) (cfg_ok rfl rfl rfl) sig_nil (fn := Try.f149) (by kernel_rfl) (by kernel_rfl) (by kernel_rfl) ?_
  intro args H K h
  change tr_layout_limit_holds m_layout_limit_holds args H K at h
  unfold tr_layout_limit_holds at h
  replace h := aC_el h
  obtain ⟨a0, _, rfl, h⟩ := h
  replace h := aN_el h
  obtain ⟨rfl, h⟩ := h
  replace h := aAgg_el h
  obtain ⟨c0, rfl, h⟩ := h
  replace h := d_layout_limit_el h
  obtain ⟨xv, rfl, h⟩ := h
  replace h := aN_el h
  obtain ⟨rfl, h⟩ := h
  refine Eq.mpr (nf_layout_limit_holds xv K) ?_
  unfold m_layout_limit_holds at h
  revert h
  exact br_So (fun h => h) (fun h => h)

theorem ok_layout_Check : SpecOK Try.prog elTT 118 (sp_layout_Check m_layout_Check) := by
  refine spec_of_exF (cfg := (cfg_layout_Check m_layout_limit_holds)) (cfg_ok rfl rfl rfl) (sig_cons ok_layout_limit_holds sig_nil) (fn := Try.f118) (by kernel_rfl) (by kernel_rfl) (by kernel_rfl) ?_
  intro args H K h
  change tr_layout_Check m_layout_Check args H K at h
  unfold tr_layout_Check at h
  replace h := aC_el h
  obtain ⟨a0, _, rfl, h⟩ := h
  replace h := aN_el h
  obtain ⟨rfl, h⟩ := h
  replace h := aAgg_el h
  obtain ⟨c0, rfl, h⟩ := h
  replace h := d_api_Config_el h
  obtain ⟨c, rfl, h⟩ := h
  replace h := aN_el h
  obtain ⟨rfl, h⟩ := h
  refine Eq.mpr (nf_layout_Check m_layout_limit_holds c K) ?_
  unfold m_layout_Check at h
  revert h
  exact bind_So fun y0 => br_So (fun h => h) (bind_So fun y1 => br_So (fun h => h) (bind_So fun y2 => br_So (fun h => h) (bind_So fun y3 => br_So (fun h => h) (bind_So fun y4 => br_So (fun h => h) (bind_So fun y5 => br_So (fun h => h) (bind_So fun y6 => br_So (fun h => h) (bind_So fun y7 => br_So (fun h => h) (bind_So fun y8 => br_So (fun h => h) (bind_So fun y9 => br_So (fun h => h) (bind_So fun y10 => br_So (fun h => h) (fun h => h)))))))))))

theorem ok_layout_Of : SpecOK Try.prog elTT 68 (sp_layout_Of m_layout_Of) := by
  refine spec_of_exF (cfg := (cfg_layout_Of m_layout_Check m_layout_chunks)) (cfg_ok rfl rfl rfl) (sig_cons ok_layout_Check (sig_cons ok_layout_chunks sig_nil)) (fn := Try.f68) (by kernel_rfl) (by kernel_rfl) (by kernel_rfl) ?_
  intro args H K h
  change tr_layout_Of m_layout_Of args H K at h
  unfold tr_layout_Of at h
  replace h := aC_el h
  obtain ⟨a0, _, rfl, h⟩ := h
  replace h := aN_el h
  obtain ⟨rfl, h⟩ := h
  replace h := aAgg_el h
  obtain ⟨c0, rfl, h⟩ := h
  replace h := d_api_Config_el h
  obtain ⟨c, rfl, h⟩ := h
  replace h := aN_el h
  obtain ⟨rfl, h⟩ := h
  refine Eq.mpr (nf_layout_Of m_layout_Check m_layout_chunks c K) ?_
  unfold m_layout_Of at h
  revert h
  exact bind_So fun y0 => br_So (fun h => h) (bind_So fun y1 => fun h => h)

end Go.Rx
end

section
/- Contracts. -/
namespace Go.Rx
open Go.Proofs
set_option maxRecDepth 100000
set_option maxHeartbeats 4000000
/-! assart/chunk.Of -/
def tr_chunk_Of (m_ : Int → Option (Int)) (args : List V) (H : Heap) (K : V → Heap → Prop) : Prop :=
  aC args fun a0 r => aN r <| aInt a0 fun p => aN H <| So (m_ p) fun x => K (vi (x)) []
def sp_chunk_Of (m_ : Int → Option (Int)) : Spec := ⟨tr_chunk_Of m_, (true : Bool)⟩

/-! (assart/chunk.one).there -/
def tr_chunk_one_there (m_ : T_chunk_one → Option (Bool)) (args : List V) (H : Heap) (K : V → Heap → Prop) : Prop :=
  aC args fun a0 r => aN r <| aAgg a0 fun c0 => d_chunk_one c0 fun xv => aN H <| So (m_ xv) fun x => K (vb (x)) []
def sp_chunk_one_there (m_ : T_chunk_one → Option (Bool)) : Spec := ⟨tr_chunk_one_there m_, (true : Bool)⟩

/-! (assart/chunk.one).pages -/
def tr_chunk_one_pages (m_ : T_chunk_one → Option (Int × Int)) (args : List V) (H : Heap) (K : V → Heap → Prop) : Prop :=
  aC args fun a0 r => aN r <| aAgg a0 fun c0 => d_chunk_one c0 fun xv => aN H <| So (m_ xv) fun x => K (.tup [vi (x.1), vi (x.2)]) []
def sp_chunk_one_pages (m_ : T_chunk_one → Option (Int × Int)) : Spec := ⟨tr_chunk_one_pages m_, (true : Bool)⟩

/-! assart/chunk.Pages -/
def tr_chunk_Pages (m_ : T_layout_Layout → Int → Option (Int × Int)) (args : List V) (H : Heap) (K : V → Heap → Prop) : Prop :=
  aC args fun a0 r => aC r fun a1 r => aN r <| aAgg a0 fun c0 => d_layout_Layout c0 fun l2 => aInt a1 fun k => aN H <| So (m_ l2 k) fun x => K (.tup [vi (x.1), vi (x.2)]) []
def sp_chunk_Pages (m_ : T_layout_Layout → Int → Option (Int × Int)) : Spec := ⟨tr_chunk_Pages m_, (true : Bool)⟩

/-! assart/chunk.span -/
def tr_chunk_span (m_ : T_layout_Layout → Int → Int → Option (Int × Int × Bool)) (args : List V) (H : Heap) (K : V → Heap → Prop) : Prop :=
  aC args fun a0 r => aC r fun a1 r => aC r fun a2 r => aN r <| aAgg a0 fun c0 => d_layout_Layout c0 fun l2 => aInt a1 fun p => aInt a2 fun n => aN H <| So (m_ l2 p n) fun x => K (.tup [vi (x.1), vi (x.2.1), vb (x.2.2)]) []
def sp_chunk_span (m_ : T_layout_Layout → Int → Int → Option (Int × Int × Bool)) : Spec := ⟨tr_chunk_span m_, (true : Bool)⟩

/-! (assart/chunk.one).is -/
def tr_chunk_one_is (m_ : Nat → (List Int) → T_chunk_one → Int → Option (Bool)) (args : List V) (H : Heap) (K : V → Heap → Prop) : Prop :=
  aC args fun a0 r => aC r fun a1 r => aC r fun a2 r => aN r <| aAgg a0 fun c0 => d_chunk_one c0 fun xv => aPtr 0 a1 <| aInt a2 fun state => aC H fun b0 r => aC r fun b1 r => aN r <| bView 1 b0 fun ws cur xs => bRow 0 true b1 fun (l : List Int) => ws = l ∧ xs.length ≤ 2 ∧ So (m_ (ws.length) cur xv state) fun x => K (vb (x)) [.pk 0 [ws, cur] xs [.row 1], .row 0 l true]
def sp_chunk_one_is (m_ : Nat → (List Int) → T_chunk_one → Int → Option (Bool)) : Spec := ⟨tr_chunk_one_is m_, (true : Bool)⟩

/-! (assart/chunk.one).turn -/
def tr_chunk_one_turn (m_ : Nat → (List Int) → T_chunk_one → Int → Option (Bool × (List Int))) (args : List V) (H : Heap) (K : V → Heap → Prop) : Prop :=
  aC args fun a0 r => aC r fun a1 r => aC r fun a2 r => aN r <| aAgg a0 fun c0 => d_chunk_one c0 fun xv => aPtr 0 a1 <| aInt a2 fun state => aC H fun b0 r => aC r fun b1 r => aN r <| bView 1 b0 fun ws cur xs => bRow 0 true b1 fun (l : List Int) => ws = l ∧ xs.length ≤ 2 ∧ So (m_ (ws.length) cur xv state) fun x => K (vb (x.1)) [.pk 0 [ws, x.2] xs [.row 1], .row 0 l true]
def sp_chunk_one_turn (m_ : Nat → (List Int) → T_chunk_one → Int → Option (Bool × (List Int))) : Spec := ⟨tr_chunk_one_turn m_, (true : Bool)⟩

/-! assart/chunk.Map -/
def tr_chunk_Map (m_ : Nat → (List Int) → T_layout_Layout → Int → Option (Bool × (List Int))) (args : List V) (H : Heap) (K : V → Heap → Prop) : Prop :=
  aC args fun a0 r => aC r fun a1 r => aC r fun a2 r => aN r <| aPtr 0 a0 <| aAgg a1 fun c1 => d_layout_Layout c1 fun l2 => aInt a2 fun k => aC H fun b0 r => aC r fun b1 r => aN r <| bView 1 b0 fun ws cur xs => bRow 0 true b1 fun (l : List Int) => ws = l ∧ xs.length ≤ 2 ∧ So (m_ (ws.length) cur l2 k) fun x => K (vb (x.1)) [.pk 0 [ws, x.2] xs [.row 1], .row 0 l true]
def sp_chunk_Map (m_ : Nat → (List Int) → T_layout_Layout → Int → Option (Bool × (List Int))) : Spec := ⟨tr_chunk_Map m_, (true : Bool)⟩

/-! assart/chunk.Unmap -/
def tr_chunk_Unmap (m_ : Nat → (List Int) → T_layout_Layout → Int → Option (Bool × (List Int))) (args : List V) (H : Heap) (K : V → Heap → Prop) : Prop :=
  aC args fun a0 r => aC r fun a1 r => aC r fun a2 r => aN r <| aPtr 0 a0 <| aAgg a1 fun c1 => d_layout_Layout c1 fun l2 => aInt a2 fun k => aC H fun b0 r => aC r fun b1 r => aN r <| bView 1 b0 fun ws cur xs => bRow 0 true b1 fun (l : List Int) => ws = l ∧ xs.length ≤ 2 ∧ So (m_ (ws.length) cur l2 k) fun x => K (vb (x.1)) [.pk 0 [ws, x.2] xs [.row 1], .row 0 l true]
def sp_chunk_Unmap (m_ : Nat → (List Int) → T_layout_Layout → Int → Option (Bool × (List Int))) : Spec := ⟨tr_chunk_Unmap m_, (true : Bool)⟩

/-! assart/chunk.Mapped -/
def tr_chunk_Mapped (m_ : Nat → (List Int) → T_layout_Layout → Int → Option (Bool)) (args : List V) (H : Heap) (K : V → Heap → Prop) : Prop :=
  aC args fun a0 r => aC r fun a1 r => aC r fun a2 r => aN r <| aPtr 0 a0 <| aAgg a1 fun c1 => d_layout_Layout c1 fun l2 => aInt a2 fun k => aC H fun b0 r => aC r fun b1 r => aN r <| bView 1 b0 fun ws cur xs => bRow 0 true b1 fun (l : List Int) => ws = l ∧ xs.length ≤ 2 ∧ So (m_ (ws.length) cur l2 k) fun x => K (vb (x)) [.pk 0 [ws, cur] xs [.row 1], .row 0 l true]
def sp_chunk_Mapped (m_ : Nat → (List Int) → T_layout_Layout → Int → Option (Bool)) : Spec := ⟨tr_chunk_Mapped m_, (true : Bool)⟩

/-! assart/chunk.Covers -/
def tr_chunk_Covers (m_ : Nat → (List Int) → T_layout_Layout → Int → Int → Option (Bool)) (args : List V) (H : Heap) (K : V → Heap → Prop) : Prop :=
  aC args fun a0 r => aC r fun a1 r => aC r fun a2 r => aC r fun a3 r => aN r <| aPtr 0 a0 <| aAgg a1 fun c1 => d_layout_Layout c1 fun l2 => aInt a2 fun p => aInt a3 fun n => aC H fun b0 r => aC r fun b1 r => aN r <| bView 1 b0 fun ws cur xs => bRow 0 true b1 fun (l : List Int) => ws = l ∧ xs.length ≤ 2 ∧ So (m_ (ws.length) cur l2 p n) fun x => K (vb (x)) [.pk 0 [ws, cur] xs [.row 1], .row 0 l true]
def sp_chunk_Covers (m_ : Nat → (List Int) → T_layout_Layout → Int → Int → Option (Bool)) : Spec := ⟨tr_chunk_Covers m_, (true : Bool)⟩

/-! assart/chunk.Ensure -/
def tr_chunk_Ensure (m_ : Nat → (List Int) → T_layout_Layout → Int → Int → Option (Int × (List Int))) (args : List V) (H : Heap) (K : V → Heap → Prop) : Prop :=
  aC args fun a0 r => aC r fun a1 r => aC r fun a2 r => aC r fun a3 r => aN r <| aPtr 0 a0 <| aAgg a1 fun c1 => d_layout_Layout c1 fun l2 => aInt a2 fun p => aInt a3 fun n => aC H fun b0 r => aC r fun b1 r => aN r <| bView 1 b0 fun ws cur xs => bRow 0 true b1 fun (l : List Int) => ws = l ∧ xs.length ≤ 2 ∧ So (m_ (ws.length) cur l2 p n) fun x => K (vi (x.1)) [.pk 0 [ws, x.2] xs [.row 1], .row 0 l true]
def sp_chunk_Ensure (m_ : Nat → (List Int) → T_layout_Layout → Int → Int → Option (Int × (List Int))) : Spec := ⟨tr_chunk_Ensure m_, (true : Bool)⟩

/-! assart/chunk.Count -/
def tr_chunk_Count (m_ : Nat → (List Int) → T_layout_Layout → Option (Int)) (args : List V) (H : Heap) (K : V → Heap → Prop) : Prop :=
  aC args fun a0 r => aC r fun a1 r => aN r <| aPtr 0 a0 <| aAgg a1 fun c1 => d_layout_Layout c1 fun l2 => aC H fun b0 r => aC r fun b1 r => aN r <| bView 1 b0 fun ws cur xs => bRow 0 true b1 fun (l : List Int) => ws = l ∧ xs.length ≤ 2 ∧ So (m_ (ws.length) cur l2) fun x => K (vi (x)) [.pk 0 [ws, cur] xs [.row 1], .row 0 l true]
def sp_chunk_Count (m_ : Nat → (List Int) → T_layout_Layout → Option (Int)) : Spec := ⟨tr_chunk_Count m_, (true : Bool)⟩

noncomputable def cfg_chunk_Of  : Cfg := { cfgB with
  sigs := sigN }

noncomputable def cfg_chunk_one_there (m_layout_Layout_Chunks : T_layout_Layout → Option (Int)) : Cfg := { cfgB with
  sigs := (sigC 30 (sp_layout_Layout_Chunks m_layout_Layout_Chunks) sigN),
  plan := fun r => match r with | 1 => some (List.range 12, 0) | _ => none }

noncomputable def cfg_chunk_one_pages (m_chunk_one_there : T_chunk_one → Option (Bool)) (m_layout_Layout_Config : T_layout_Layout → Option (T_api_Config)) : Cfg := { cfgB with
  sigs := (sigC 128 (sp_chunk_one_there m_chunk_one_there) (sigC 27 (sp_layout_Layout_Config m_layout_Layout_Config) sigN)) }

noncomputable def cfg_chunk_Pages (m_chunk_one_pages : T_chunk_one → Option (Int × Int)) : Cfg := { cfgB with
  sigs := (sigC 80 (sp_chunk_one_pages m_chunk_one_pages) sigN) }

noncomputable def cfg_chunk_span (m_layout_Layout_Config : T_layout_Layout → Option (T_api_Config)) (m_chunk_Of : Int → Option (Int)) : Cfg := { cfgB with
  sigs := (sigC 27 (sp_layout_Layout_Config m_layout_Layout_Config) (sigC 111 (sp_chunk_Of m_chunk_Of) sigN)) }

noncomputable def cfg_chunk_one_is (m_chunk_one_there : T_chunk_one → Option (Bool)) (m_layout_Layout_Table : T_layout_Layout → Int → Option (Int)) : Cfg := { cfgB with
  sigs := (sigC 128 (sp_chunk_one_there m_chunk_one_there) (sigC 31 (sp_layout_Layout_Table m_layout_Layout_Table) (sigC 90 rdS sigN))) }

noncomputable def cfg_chunk_one_turn (m_chunk_one_there : T_chunk_one → Option (Bool)) (m_chunk_one_is : Nat → (List Int) → T_chunk_one → Int → Option (Bool)) (m_layout_Layout_Table : T_layout_Layout → Int → Option (Int)) : Cfg := { cfgB with
  sigs := (sigC 128 (sp_chunk_one_there m_chunk_one_there) (sigC 117 (sp_chunk_one_is m_chunk_one_is) (sigC 31 (sp_layout_Layout_Table m_layout_Layout_Table) (sigC 91 wrS sigN)))) }

noncomputable def cfg_chunk_Map (m_chunk_one_turn : Nat → (List Int) → T_chunk_one → Int → Option (Bool × (List Int))) : Cfg := { cfgB with
  sigs := (sigC 81 (sp_chunk_one_turn m_chunk_one_turn) sigN) }

noncomputable def cfg_chunk_Unmap (m_chunk_one_turn : Nat → (List Int) → T_chunk_one → Int → Option (Bool × (List Int))) : Cfg := { cfgB with
  sigs := (sigC 81 (sp_chunk_one_turn m_chunk_one_turn) sigN) }

noncomputable def cfg_chunk_Mapped (m_chunk_one_is : Nat → (List Int) → T_chunk_one → Int → Option (Bool)) : Cfg := { cfgB with
  sigs := (sigC 117 (sp_chunk_one_is m_chunk_one_is) sigN) }

noncomputable def cfg_chunk_Covers (m_chunk_span : T_layout_Layout → Int → Int → Option (Int × Int × Bool)) (m_chunk_Mapped : Nat → (List Int) → T_layout_Layout → Int → Option (Bool)) : Cfg := { cfgB with
  sigs := (sigC 82 (sp_chunk_span m_chunk_span) (sigC 67 (sp_chunk_Mapped m_chunk_Mapped) sigN)),
  keep := fun r => match r with | 3 => some [(0, none), (5, none), (10, none), (11, none), (12, none)] | _ => none }

noncomputable def cfg_chunk_Ensure (m_chunk_span : T_layout_Layout → Int → Int → Option (Int × Int × Bool)) (m_chunk_Map : Nat → (List Int) → T_layout_Layout → Int → Option (Bool × (List Int))) (m_chunk_Pages : T_layout_Layout → Int → Option (Int × Int)) : Cfg := { cfgB with
  sigs := (sigC 82 (sp_chunk_span m_chunk_span) (sigC 24 (sp_chunk_Map m_chunk_Map) (sigC 23 (sp_chunk_Pages m_chunk_Pages) sigN))),
  keep := fun r => match r with | 4 => some [(0, none), (5, none), (10, none), (11, none), (12, none), (13, none)] | _ => none }

noncomputable def cfg_chunk_Count (m_layout_Layout_Chunks : T_layout_Layout → Option (Int)) (m_chunk_Mapped : Nat → (List Int) → T_layout_Layout → Int → Option (Bool)) (m_chunk_Pages : T_layout_Layout → Int → Option (Int × Int)) : Cfg := { cfgB with
  sigs := (sigC 30 (sp_layout_Layout_Chunks m_layout_Layout_Chunks) (sigC 67 (sp_chunk_Mapped m_chunk_Mapped) (sigC 23 (sp_chunk_Pages m_chunk_Pages) sigN))),
  keep := fun r => match r with | 3 => some [(0, none), (3, none), (5, none), (10, none), (11, none)] | _ => none }

theorem nf_chunk_Of (p : Int) (K : V → Heap → Prop) : (exF cfg_chunk_Of Try.f111 [vi p] [] K) = (
    br (Decidable.decide (p < 0)) (K (vi (-1)) []) (K (vi (IntKind.wrap IntKind.i64 (Int.tdiv p 4))) [])) := by
  kernel_rfl

theorem nf_chunk_one_there (m_layout_Layout_Chunks : T_layout_Layout → Option (Int)) (xv : T_chunk_one) (K : V → Heap → Prop) : (exF (cfg_chunk_one_there m_layout_Layout_Chunks) Try.f128 [.agg (e_chunk_one xv)] [] K) = (
    br (Decidable.decide (T_chunk_one.k xv ≥ 0)) (So (m_layout_Layout_Chunks (T_chunk_one.Layout xv)) (fun (y0 : Int) => (K (vb (Decidable.decide (T_chunk_one.k xv < y0))) []))) (K (vb (Bool.false)) [])) := by
  kernel_rfl

theorem nf_chunk_one_pages (m_chunk_one_there : T_chunk_one → Option (Bool)) (m_layout_Layout_Config : T_layout_Layout → Option (T_api_Config)) (xv : T_chunk_one) (K : V → Heap → Prop) : (exF (cfg_chunk_one_pages m_chunk_one_there m_layout_Layout_Config) Try.f80 [.agg (e_chunk_one xv)] [] K) = (
    So (m_chunk_one_there xv) (fun (y0 : Bool) => (br (!y0) (K (.tup [vi (0), vi (0)]) []) (So (m_layout_Layout_Config (T_chunk_one.Layout xv)) (fun (y1 : T_api_Config) => (K (.tup [vi (IntKind.wrap IntKind.i64 (T_chunk_one.k xv * 4)), vi (if IntKind.wrap IntKind.i64 (T_api_Config.Pages y1 - IntKind.wrap IntKind.i64 (T_chunk_one.k xv * (4 : Int))) < (4 : Int) then IntKind.wrap IntKind.i64 (T_api_Config.Pages y1 - IntKind.wrap IntKind.i64 (T_chunk_one.k xv * (4 : Int))) else (4 : Int))]) [])))))) := by
  kernel_rfl

theorem nf_chunk_Pages (m_chunk_one_pages : T_chunk_one → Option (Int × Int)) (l2 : T_layout_Layout) (k : Int) (K : V → Heap → Prop) : (exF (cfg_chunk_Pages m_chunk_one_pages) Try.f23 [.agg (e_layout_Layout l2), vi k] [] K) = (
    So (m_chunk_one_pages (T_chunk_one.mk l2 k)) (fun (y0 : Int × Int) => (K (.tup [vi (Prod.fst y0), vi (Prod.snd y0)]) []))) := by
  kernel_rfl

theorem nf_chunk_span (m_layout_Layout_Config : T_layout_Layout → Option (T_api_Config)) (m_chunk_Of : Int → Option (Int)) (l2 : T_layout_Layout) (p : Int) (n : Int) (K : V → Heap → Prop) : (exF (cfg_chunk_span m_layout_Layout_Config m_chunk_Of) Try.f82 [.agg (e_layout_Layout l2), vi p, vi n] [] K) = (
    So (m_layout_Layout_Config l2) (fun (y0 : T_api_Config) => (br (Decidable.decide (n < 1)) (K (.tup [vi (0), vi (0), vb (Bool.false)]) []) (br (Decidable.decide (p < 0)) (K (.tup [vi (0), vi (0), vb (Bool.false)]) []) (br (Decidable.decide (p ≥ T_api_Config.Pages y0)) (K (.tup [vi (0), vi (0), vb (Bool.false)]) []) (br (Decidable.decide (n > IntKind.wrap IntKind.i64 (T_api_Config.Pages y0 - p))) (K (.tup [vi (0), vi (0), vb (Bool.false)]) []) (So (m_chunk_Of p) (fun (y1 : Int) => (So (m_chunk_Of (IntKind.wrap IntKind.i64 (IntKind.wrap IntKind.i64 (p + n) - 1))) (fun (y2 : Int) => (K (.tup [vi (y1), vi (y2), vb (Bool.true)]) []))))))))))) := by
  kernel_rfl

theorem nf_chunk_one_is (m_chunk_one_there : T_chunk_one → Option (Bool)) (m_layout_Layout_Table : T_layout_Layout → Int → Option (Int)) (ws : List Int) (cur : List Int) (xs : List Value) (xv : T_chunk_one) (state : Int) (K : V → Heap → Prop) : (exF (cfg_chunk_one_is m_chunk_one_there m_layout_Layout_Table) Try.f117 [.agg (e_chunk_one xv), .ptr 0 0, vi state] [.pk 0 [ws, cur] xs [.row 1], .row 0 ws true] K) = (
    So (m_chunk_one_there xv) (fun (y0 : Bool) => (br (y0) (So (m_layout_Layout_Table (T_chunk_one.Layout xv) (T_chunk_one.k xv)) (fun (y1 : Int) => (((ws = ws) ∧ (((List.length xs ≤ 2) ∧ (Req (inR y1 (List.length ws)) (K (vb (rd cur y1 == state)) [.pk 0 [ws, cur] (xs) [.row 1], .row 0 (ws : List (Int)) Bool.true])))))))) (K (vb (Bool.false)) [.pk 0 [ws, cur] (xs) [.row 1], .row 0 (ws : List (Int)) Bool.true])))) := by
  kernel_rfl

theorem nf_chunk_one_turn (m_chunk_one_there : T_chunk_one → Option (Bool)) (m_chunk_one_is : Nat → (List Int) → T_chunk_one → Int → Option (Bool)) (m_layout_Layout_Table : T_layout_Layout → Int → Option (Int)) (ws : List Int) (cur : List Int) (xs : List Value) (xv : T_chunk_one) (state : Int) (K : V → Heap → Prop) : (exF (cfg_chunk_one_turn m_chunk_one_there m_chunk_one_is m_layout_Layout_Table) Try.f81 [.agg (e_chunk_one xv), .ptr 0 0, vi state] [.pk 0 [ws, cur] xs [.row 1], .row 0 ws true] K) = (
    So (m_chunk_one_there xv) (fun (y0 : Bool) => (br (!y0) (K (vb (Bool.false)) [.pk 0 [ws, cur] (xs) [.row 1], .row 0 (ws : List (Int)) Bool.true]) (((ws = ws) ∧ (((List.length xs ≤ 2) ∧ (So (m_chunk_one_is (List.length ws) cur xv 1) (fun (y1 : Bool) => (br (y1 == (state == 1)) (K (vb (Bool.false)) [.pk 0 [ws, cur] (xs) [.row 1], .row 0 (ws : List (Int)) Bool.true]) (So (m_layout_Layout_Table (T_chunk_one.Layout xv) (T_chunk_one.k xv)) (fun (y2 : Int) => (((ws = ws) ∧ (((List.length xs ≤ 2) ∧ (Req (inR y2 (List.length ws)) (K (vb (Bool.true)) [.pk 0 [ws, wr cur y2 state] (xs) [.row 1], .row 0 (ws : List (Int)) Bool.true])))))))))))))))))) := by
  kernel_rfl

theorem nf_chunk_Map (m_chunk_one_turn : Nat → (List Int) → T_chunk_one → Int → Option (Bool × (List Int))) (ws : List Int) (cur : List Int) (xs : List Value) (l2 : T_layout_Layout) (k : Int) (K : V → Heap → Prop) : (exF (cfg_chunk_Map m_chunk_one_turn) Try.f24 [.ptr 0 0, .agg (e_layout_Layout l2), vi k] [.pk 0 [ws, cur] xs [.row 1], .row 0 ws true] K) = (
    ((ws = ws) ∧ (((List.length xs ≤ 2) ∧ (So (m_chunk_one_turn (List.length ws) cur (T_chunk_one.mk l2 k) 1) (fun (y0 : Bool × List Int) => (K (vb (Prod.fst y0)) [.pk 0 [ws, Prod.snd y0] (xs) [.row 1], .row 0 (ws : List (Int)) Bool.true]))))))) := by
  kernel_rfl

theorem nf_chunk_Unmap (m_chunk_one_turn : Nat → (List Int) → T_chunk_one → Int → Option (Bool × (List Int))) (ws : List Int) (cur : List Int) (xs : List Value) (l2 : T_layout_Layout) (k : Int) (K : V → Heap → Prop) : (exF (cfg_chunk_Unmap m_chunk_one_turn) Try.f25 [.ptr 0 0, .agg (e_layout_Layout l2), vi k] [.pk 0 [ws, cur] xs [.row 1], .row 0 ws true] K) = (
    ((ws = ws) ∧ (((List.length xs ≤ 2) ∧ (So (m_chunk_one_turn (List.length ws) cur (T_chunk_one.mk l2 k) 0) (fun (y0 : Bool × List Int) => (K (vb (Prod.fst y0)) [.pk 0 [ws, Prod.snd y0] (xs) [.row 1], .row 0 (ws : List (Int)) Bool.true]))))))) := by
  kernel_rfl

theorem nf_chunk_Mapped (m_chunk_one_is : Nat → (List Int) → T_chunk_one → Int → Option (Bool)) (ws : List Int) (cur : List Int) (xs : List Value) (l2 : T_layout_Layout) (k : Int) (K : V → Heap → Prop) : (exF (cfg_chunk_Mapped m_chunk_one_is) Try.f67 [.ptr 0 0, .agg (e_layout_Layout l2), vi k] [.pk 0 [ws, cur] xs [.row 1], .row 0 ws true] K) = (
    ((ws = ws) ∧ (((List.length xs ≤ 2) ∧ (So (m_chunk_one_is (List.length ws) cur (T_chunk_one.mk l2 k) 1) (fun (y0 : Bool) => (K (vb (y0)) [.pk 0 [ws, cur] (xs) [.row 1], .row 0 (ws : List (Int)) Bool.true]))))))) := by
  kernel_rfl

theorem nf_chunk_Covers_L1 (m_chunk_span : T_layout_Layout → Int → Int → Option (Int × Int × Bool)) (m_chunk_Mapped : Nat → (List Int) → T_layout_Layout → Int → Option (Bool)) (ws : List Int) (cur : List Int) (xs : List Value) (l2 : T_layout_Layout) (p : Int) (n : Int) (last : Int) (ok : Bool) (k : Int) (K : V → Heap → Prop) (J1 : Env → Heap → Prop) : (ex (cfg_chunk_Covers m_chunk_span m_chunk_Mapped) (⟨35, 2⟩ : Cx) (at_ (bodyOf Try.f28) [1, 1, 0, 1, 0, 0]) (mkEnv [(0, .ptr 0 0), (5, .ptr 2 0), (10, vi (last)), (11, vb (ok)), (12, vi (k))]) [.pk 0 [ws, cur] (xs) [.row 1], .row 0 (ws : List (Int)) Bool.true, .cells 28 (e_layout_Layout l2)] (roundK (cfg_chunk_Covers m_chunk_span m_chunk_Mapped) (⟨35, 2⟩ : Cx) (at_ (bodyOf Try.f28) [1, 1, 0, 1, 0, 0]) (contK (cfg_chunk_Covers m_chunk_span m_chunk_Mapped) (⟨35, 2⟩ : Cx) (bodyOf Try.f28) [1, 1, 0, 1, 0] (retK (cfg_chunk_Covers m_chunk_span m_chunk_Mapped) Try.f28 2 K)) J1)) = (
    br (ok) (br (Decidable.decide (k ≤ last)) (((ws = ws) ∧ (((List.length xs ≤ 2) ∧ (So (m_chunk_Mapped (List.length ws) cur l2 k) (fun (y0 : Bool) => (J1 (mkEnv [(0, .ptr 0 0), (5, .ptr 2 0), (10, vi (last)), (11, vb (y0)), (12, vi (IntKind.wrap IntKind.i64 (k + 1)))]) [.pk 0 [ws, cur] (xs) [.row 1], .row 0 (ws : List (Int)) Bool.true, .cells 28 (e_layout_Layout l2)]))))))) (K (vb (ok)) [.pk 0 [ws, cur] (xs) [.row 1], .row 0 (ws : List (Int)) Bool.true])) (K (vb (ok)) [.pk 0 [ws, cur] (xs) [.row 1], .row 0 (ws : List (Int)) Bool.true])) := by
  kernel_rfl

theorem nf_chunk_Covers (m_chunk_span : T_layout_Layout → Int → Int → Option (Int × Int × Bool)) (m_chunk_Mapped : Nat → (List Int) → T_layout_Layout → Int → Option (Bool)) (ws : List Int) (cur : List Int) (xs : List Value) (l2 : T_layout_Layout) (p : Int) (n : Int) (K : V → Heap → Prop) : (exF (cfg_chunk_Covers m_chunk_span m_chunk_Mapped) Try.f28 [.ptr 0 0, .agg (e_layout_Layout l2), vi p, vi n] [.pk 0 [ws, cur] xs [.row 1], .row 0 ws true] K) = (
    So (m_chunk_span l2 p n) (fun (y0 : Int × Int × Bool) => (Loop (cfg_chunk_Covers m_chunk_span m_chunk_Mapped) (⟨35, 2⟩ : Cx) (at_ (bodyOf Try.f28) [1, 1, 0, 1, 0, 0]) (mkEnv [(0, .ptr 0 0), (5, .ptr 2 0), (10, vi (Prod.fst (Prod.snd y0))), (11, vb (Prod.snd (Prod.snd y0))), (12, vi (Prod.fst y0))]) [.pk 0 [ws, cur] (xs) [.row 1], .row 0 (ws : List (Int)) Bool.true, .cells 28 (e_layout_Layout l2)] (contK (cfg_chunk_Covers m_chunk_span m_chunk_Mapped) (⟨35, 2⟩ : Cx) (bodyOf Try.f28) [1, 1, 0, 1, 0] (retK (cfg_chunk_Covers m_chunk_span m_chunk_Mapped) Try.f28 2 K))))) := by
  kernel_rfl

theorem nf_chunk_Ensure_L1 (m_chunk_span : T_layout_Layout → Int → Int → Option (Int × Int × Bool)) (m_chunk_Map : Nat → (List Int) → T_layout_Layout → Int → Option (Bool × (List Int))) (m_chunk_Pages : T_layout_Layout → Int → Option (Int × Int)) (ws : List Int) (cur : List Int) (xs : List Value) (l2 : T_layout_Layout) (p : Int) (n : Int) (last : Int) (ok : Bool) (turned : Int) (k : Int) (cur2 : List Int) (K : V → Heap → Prop) (J1 : Env → Heap → Prop) : (ex (cfg_chunk_Ensure m_chunk_span m_chunk_Map m_chunk_Pages) (⟨47, 2⟩ : Cx) (at_ (bodyOf Try.f26) [1, 1, 1, 0, 1, 0, 0]) (mkEnv [(0, .ptr 0 0), (5, .ptr 2 0), (10, vi (last)), (11, vb (ok)), (12, vi (turned)), (13, vi (k))]) [.pk 0 [ws, cur2] (xs) [.row 1], .row 0 (ws : List (Int)) Bool.true, .cells 28 (e_layout_Layout l2)] (roundK (cfg_chunk_Ensure m_chunk_span m_chunk_Map m_chunk_Pages) (⟨47, 2⟩ : Cx) (at_ (bodyOf Try.f26) [1, 1, 1, 0, 1, 0, 0]) (contK (cfg_chunk_Ensure m_chunk_span m_chunk_Map m_chunk_Pages) (⟨47, 2⟩ : Cx) (bodyOf Try.f26) [1, 1, 1, 0, 1, 0] (retK (cfg_chunk_Ensure m_chunk_span m_chunk_Map m_chunk_Pages) Try.f26 2 K)) J1)) = (
    br (ok) (br (Decidable.decide (k ≤ last)) (((ws = ws) ∧ (((List.length xs ≤ 2) ∧ (So (m_chunk_Map (List.length ws) cur2 l2 k) (fun (y0 : Bool × List Int) => (br (Prod.fst y0) (So (m_chunk_Pages l2 k) (fun (y1 : Int × Int) => (J1 (mkEnv [(0, .ptr 0 0), (5, .ptr 2 0), (10, vi (last)), (11, vb (ok)), (12, vi (IntKind.wrap IntKind.i64 (turned + Prod.snd y1))), (13, vi (IntKind.wrap IntKind.i64 (k + 1)))]) [.pk 0 [ws, Prod.snd y0] (xs) [.row 1], .row 0 (ws : List (Int)) Bool.true, .cells 28 (e_layout_Layout l2)]))) (J1 (mkEnv [(0, .ptr 0 0), (5, .ptr 2 0), (10, vi (last)), (11, vb (ok)), (12, vi (turned)), (13, vi (IntKind.wrap IntKind.i64 (k + 1)))]) [.pk 0 [ws, Prod.snd y0] (xs) [.row 1], .row 0 (ws : List (Int)) Bool.true, .cells 28 (e_layout_Layout l2)])))))))) (K (vi (turned)) [.pk 0 [ws, cur2] (xs) [.row 1], .row 0 (ws : List (Int)) Bool.true])) (K (vi (turned)) [.pk 0 [ws, cur2] (xs) [.row 1], .row 0 (ws : List (Int)) Bool.true])) := by
  kernel_rfl

theorem nf_chunk_Ensure (m_chunk_span : T_layout_Layout → Int → Int → Option (Int × Int × Bool)) (m_chunk_Map : Nat → (List Int) → T_layout_Layout → Int → Option (Bool × (List Int))) (m_chunk_Pages : T_layout_Layout → Int → Option (Int × Int)) (ws : List Int) (cur : List Int) (xs : List Value) (l2 : T_layout_Layout) (p : Int) (n : Int) (K : V → Heap → Prop) : (exF (cfg_chunk_Ensure m_chunk_span m_chunk_Map m_chunk_Pages) Try.f26 [.ptr 0 0, .agg (e_layout_Layout l2), vi p, vi n] [.pk 0 [ws, cur] xs [.row 1], .row 0 ws true] K) = (
    So (m_chunk_span l2 p n) (fun (y0 : Int × Int × Bool) => (Loop (cfg_chunk_Ensure m_chunk_span m_chunk_Map m_chunk_Pages) (⟨47, 2⟩ : Cx) (at_ (bodyOf Try.f26) [1, 1, 1, 0, 1, 0, 0]) (mkEnv [(0, .ptr 0 0), (5, .ptr 2 0), (10, vi (Prod.fst (Prod.snd y0))), (11, vb (Prod.snd (Prod.snd y0))), (12, vi (0)), (13, vi (Prod.fst y0))]) [.pk 0 [ws, cur] (xs) [.row 1], .row 0 (ws : List (Int)) Bool.true, .cells 28 (e_layout_Layout l2)] (contK (cfg_chunk_Ensure m_chunk_span m_chunk_Map m_chunk_Pages) (⟨47, 2⟩ : Cx) (bodyOf Try.f26) [1, 1, 1, 0, 1, 0] (retK (cfg_chunk_Ensure m_chunk_span m_chunk_Map m_chunk_Pages) Try.f26 2 K))))) := by
  kernel_rfl

theorem nf_chunk_Count_L1 (m_layout_Layout_Chunks : T_layout_Layout → Option (Int)) (m_chunk_Mapped : Nat → (List Int) → T_layout_Layout → Int → Option (Bool)) (m_chunk_Pages : T_layout_Layout → Int → Option (Int × Int)) (ws : List Int) (cur : List Int) (xs : List Value) (l2 : T_layout_Layout) (many : Int) (t10 : Int) (t11 : Int) (K : V → Heap → Prop) (J1 : Env → Heap → Prop) : (ex (cfg_chunk_Count m_layout_Layout_Chunks m_chunk_Mapped m_chunk_Pages) (⟨29, 2⟩ : Cx) (at_ (bodyOf Try.f22) [1, 1, 0, 1, 0, 0]) (mkEnv [(0, .ptr 0 0), (3, .ptr 2 0), (5, vi (many)), (10, vi (t10)), (11, vi (t11))]) [.pk 0 [ws, cur] (xs) [.row 1], .row 0 (ws : List (Int)) Bool.true, .cells 28 (e_layout_Layout l2)] (roundK (cfg_chunk_Count m_layout_Layout_Chunks m_chunk_Mapped m_chunk_Pages) (⟨29, 2⟩ : Cx) (at_ (bodyOf Try.f22) [1, 1, 0, 1, 0, 0]) (contK (cfg_chunk_Count m_layout_Layout_Chunks m_chunk_Mapped m_chunk_Pages) (⟨29, 2⟩ : Cx) (bodyOf Try.f22) [1, 1, 0, 1, 0] (retK (cfg_chunk_Count m_layout_Layout_Chunks m_chunk_Mapped m_chunk_Pages) Try.f22 2 K)) J1)) = (
    br (Decidable.decide (t11 < t10)) (((ws = ws) ∧ (((List.length xs ≤ 2) ∧ (So (m_chunk_Mapped (List.length ws) cur l2 t11) (fun (y0 : Bool) => (br (y0) (So (m_chunk_Pages l2 t11) (fun (y1 : Int × Int) => (J1 (mkEnv [(0, .ptr 0 0), (3, .ptr 2 0), (5, vi (IntKind.wrap IntKind.i64 (many + Prod.snd y1))), (10, vi (t10)), (11, vi (IntKind.wrap IntKind.i64 (t11 + 1)))]) [.pk 0 [ws, cur] (xs) [.row 1], .row 0 (ws : List (Int)) Bool.true, .cells 28 (e_layout_Layout l2)]))) (J1 (mkEnv [(0, .ptr 0 0), (3, .ptr 2 0), (5, vi (many)), (10, vi (t10)), (11, vi (IntKind.wrap IntKind.i64 (t11 + 1)))]) [.pk 0 [ws, cur] (xs) [.row 1], .row 0 (ws : List (Int)) Bool.true, .cells 28 (e_layout_Layout l2)])))))))) (K (vi (many)) [.pk 0 [ws, cur] (xs) [.row 1], .row 0 (ws : List (Int)) Bool.true])) := by
  kernel_rfl

theorem nf_chunk_Count (m_layout_Layout_Chunks : T_layout_Layout → Option (Int)) (m_chunk_Mapped : Nat → (List Int) → T_layout_Layout → Int → Option (Bool)) (m_chunk_Pages : T_layout_Layout → Int → Option (Int × Int)) (ws : List Int) (cur : List Int) (xs : List Value) (l2 : T_layout_Layout) (K : V → Heap → Prop) : (exF (cfg_chunk_Count m_layout_Layout_Chunks m_chunk_Mapped m_chunk_Pages) Try.f22 [.ptr 0 0, .agg (e_layout_Layout l2)] [.pk 0 [ws, cur] xs [.row 1], .row 0 ws true] K) = (
    So (m_layout_Layout_Chunks l2) (fun (y0 : Int) => (Loop (cfg_chunk_Count m_layout_Layout_Chunks m_chunk_Mapped m_chunk_Pages) (⟨29, 2⟩ : Cx) (at_ (bodyOf Try.f22) [1, 1, 0, 1, 0, 0]) (mkEnv [(0, .ptr 0 0), (3, .ptr 2 0), (5, vi (0)), (10, vi (y0)), (11, vi (0))]) [.pk 0 [ws, cur] (xs) [.row 1], .row 0 (ws : List (Int)) Bool.true, .cells 28 (e_layout_Layout l2)] (contK (cfg_chunk_Count m_layout_Layout_Chunks m_chunk_Mapped m_chunk_Pages) (⟨29, 2⟩ : Cx) (bodyOf Try.f22) [1, 1, 0, 1, 0] (retK (cfg_chunk_Count m_layout_Layout_Chunks m_chunk_Mapped m_chunk_Pages) Try.f22 2 K))))) := by
  kernel_rfl

noncomputable def m_chunk_Of (p : Int) : Option (Int) :=
  (bif (Decidable.decide (p < 0)) then some ((-1)) else some ((IntKind.wrap IntKind.i64 (Int.tdiv p 4))))

noncomputable def m_chunk_one_there (xv : T_chunk_one) : Option (Bool) :=
  (bif (Decidable.decide (T_chunk_one.k xv ≥ 0)) then ((m_layout_Layout_Chunks (T_chunk_one.Layout xv)).bind fun y0 => some ((Decidable.decide (T_chunk_one.k xv < y0)))) else some ((Bool.false)))

noncomputable def m_chunk_one_pages (xv : T_chunk_one) : Option (Int × Int) :=
  ((m_chunk_one_there xv).bind fun y0 => (bif (!y0) then some (((0), (0))) else ((m_layout_Layout_Config (T_chunk_one.Layout xv)).bind fun y1 => some (((IntKind.wrap IntKind.i64 (T_chunk_one.k xv * 4)), (if IntKind.wrap IntKind.i64 (T_api_Config.Pages y1 - IntKind.wrap IntKind.i64 (T_chunk_one.k xv * (4 : Int))) < (4 : Int) then IntKind.wrap IntKind.i64 (T_api_Config.Pages y1 - IntKind.wrap IntKind.i64 (T_chunk_one.k xv * (4 : Int))) else (4 : Int)))))))

noncomputable def m_chunk_Pages (l2 : T_layout_Layout) (k : Int) : Option (Int × Int) :=
  ((m_chunk_one_pages (T_chunk_one.mk l2 k)).bind fun y0 => some (((Prod.fst y0), (Prod.snd y0))))

noncomputable def m_chunk_span (l2 : T_layout_Layout) (p : Int) (n : Int) : Option (Int × Int × Bool) :=
  ((m_layout_Layout_Config l2).bind fun y0 => (bif (Decidable.decide (n < 1)) then some (((0), (0), (Bool.false))) else (bif (Decidable.decide (p < 0)) then some (((0), (0), (Bool.false))) else (bif (Decidable.decide (p ≥ T_api_Config.Pages y0)) then some (((0), (0), (Bool.false))) else (bif (Decidable.decide (n > IntKind.wrap IntKind.i64 (T_api_Config.Pages y0 - p))) then some (((0), (0), (Bool.false))) else ((m_chunk_Of p).bind fun y1 => ((m_chunk_Of (IntKind.wrap IntKind.i64 (IntKind.wrap IntKind.i64 (p + n) - 1))).bind fun y2 => some (((y1), (y2), (Bool.true))))))))))

noncomputable def m_chunk_one_is (nw : Nat) (cur : List Int) (xv : T_chunk_one) (state : Int) : Option (Bool) :=
  ((m_chunk_one_there xv).bind fun y0 => (bif (y0) then ((m_layout_Layout_Table (T_chunk_one.Layout xv) (T_chunk_one.k xv)).bind fun y1 => (bif (inR y1 nw) then some ((rd cur y1 == state)) else none)) else some ((Bool.false))))

noncomputable def m_chunk_one_turn (nw : Nat) (cur : List Int) (xv : T_chunk_one) (state : Int) : Option (Bool × (List Int)) :=
  ((m_chunk_one_there xv).bind fun y0 => (bif (!y0) then some (((Bool.false), (cur))) else ((m_chunk_one_is nw cur xv 1).bind fun y1 => (bif (y1 == (state == 1)) then some (((Bool.false), (cur))) else ((m_layout_Layout_Table (T_chunk_one.Layout xv) (T_chunk_one.k xv)).bind fun y2 => (bif (inR y2 nw) then some (((Bool.true), (wr cur y2 state))) else none))))))

noncomputable def m_chunk_Map (nw : Nat) (cur : List Int) (l2 : T_layout_Layout) (k : Int) : Option (Bool × (List Int)) :=
  ((m_chunk_one_turn nw cur (T_chunk_one.mk l2 k) 1).bind fun y0 => some (((Prod.fst y0), (Prod.snd y0))))

noncomputable def m_chunk_Unmap (nw : Nat) (cur : List Int) (l2 : T_layout_Layout) (k : Int) : Option (Bool × (List Int)) :=
  ((m_chunk_one_turn nw cur (T_chunk_one.mk l2 k) 0).bind fun y0 => some (((Prod.fst y0), (Prod.snd y0))))

noncomputable def m_chunk_Mapped (nw : Nat) (cur : List Int) (l2 : T_layout_Layout) (k : Int) : Option (Bool) :=
  ((m_chunk_one_is nw cur (T_chunk_one.mk l2 k) 1).bind fun y0 => some ((y0)))

noncomputable def sb_chunk_Covers_L1 (nw : Nat) (cur : List Int) (l2 : T_layout_Layout) (last : Int) (ok : Bool) (k : Int) : Option ((Bool × Int) ⊕ (Bool)) :=
  (bif (ok) then (bif (Decidable.decide (k ≤ last)) then ((m_chunk_Mapped nw cur l2 k).bind fun y0 => some (.inl ((y0), (IntKind.wrap IntKind.i64 (k + 1))))) else some (.inr ((ok)))) else some (.inr ((ok))))

noncomputable def lp_chunk_Covers_L1 (nw : Nat) (cur : List Int) (l2 : T_layout_Layout) (last : Int) (s : Bool × Int) : Option (Bool) :=
  loopO (fun s => sb_chunk_Covers_L1 nw cur l2 last s.1 s.2) s

noncomputable def m_chunk_Covers (nw : Nat) (cur : List Int) (l2 : T_layout_Layout) (p : Int) (n : Int) : Option (Bool) :=
  ((m_chunk_span l2 p n).bind fun y0 => (lp_chunk_Covers_L1 nw cur l2 (Prod.fst (Prod.snd y0)) ((Prod.snd (Prod.snd y0)), (Prod.fst y0))))

noncomputable def sb_chunk_Ensure_L1 (nw : Nat) (l2 : T_layout_Layout) (last : Int) (ok : Bool) (turned : Int) (k : Int) (cur2 : List Int) : Option ((Int × Int × (List Int)) ⊕ (Int × (List Int))) :=
  (bif (ok) then (bif (Decidable.decide (k ≤ last)) then ((m_chunk_Map nw cur2 l2 k).bind fun y0 => (bif (Prod.fst y0) then ((m_chunk_Pages l2 k).bind fun y1 => some (.inl ((IntKind.wrap IntKind.i64 (turned + Prod.snd y1)), (IntKind.wrap IntKind.i64 (k + 1)), (Prod.snd y0)))) else some (.inl ((turned), (IntKind.wrap IntKind.i64 (k + 1)), (Prod.snd y0))))) else some (.inr (((turned), (cur2))))) else some (.inr (((turned), (cur2)))))

noncomputable def lp_chunk_Ensure_L1 (nw : Nat) (l2 : T_layout_Layout) (last : Int) (ok : Bool) (s : Int × Int × (List Int)) : Option (Int × (List Int)) :=
  loopO (fun s => sb_chunk_Ensure_L1 nw l2 last ok s.1 s.2.1 s.2.2) s

noncomputable def m_chunk_Ensure (nw : Nat) (cur : List Int) (l2 : T_layout_Layout) (p : Int) (n : Int) : Option (Int × (List Int)) :=
  ((m_chunk_span l2 p n).bind fun y0 => (lp_chunk_Ensure_L1 nw l2 (Prod.fst (Prod.snd y0)) (Prod.snd (Prod.snd y0)) ((0), (Prod.fst y0), (cur))))

noncomputable def sb_chunk_Count_L1 (nw : Nat) (cur : List Int) (l2 : T_layout_Layout) (t10 : Int) (many : Int) (t11 : Int) : Option ((Int × Int) ⊕ (Int)) :=
  (bif (Decidable.decide (t11 < t10)) then ((m_chunk_Mapped nw cur l2 t11).bind fun y0 => (bif (y0) then ((m_chunk_Pages l2 t11).bind fun y1 => some (.inl ((IntKind.wrap IntKind.i64 (many + Prod.snd y1)), (IntKind.wrap IntKind.i64 (t11 + 1))))) else some (.inl ((many), (IntKind.wrap IntKind.i64 (t11 + 1)))))) else some (.inr ((many))))

noncomputable def lp_chunk_Count_L1 (nw : Nat) (cur : List Int) (l2 : T_layout_Layout) (t10 : Int) (s : Int × Int) : Option (Int) :=
  loopO (fun s => sb_chunk_Count_L1 nw cur l2 t10 s.1 s.2) s

noncomputable def m_chunk_Count (nw : Nat) (cur : List Int) (l2 : T_layout_Layout) : Option (Int) :=
  ((m_layout_Layout_Chunks l2).bind fun y0 => (lp_chunk_Count_L1 nw cur l2 (y0) ((0), (0))))

attribute [local irreducible] Loop ex exF contK roundK retK at_ bodyOf mkEnv
theorem ok_chunk_Of : SpecOK Try.prog elTT 111 (sp_chunk_Of m_chunk_Of) := by
  refine spec_of_exF (cfg := cfg_chunk_Of) (cfg_ok rfl rfl rfl) sig_nil (fn := Try.f111) (by kernel_rfl) (by kernel_rfl) (by kernel_rfl) ?_
  intro args H K h
  change tr_chunk_Of m_chunk_Of args H K at h
  unfold tr_chunk_Of at h
  replace h := aC_el h
  obtain ⟨a0, _, rfl, h⟩ := h
  replace h := aN_el h
  obtain ⟨rfl, h⟩ := h
  replace h := aInt_el h
  obtain ⟨p, rfl, h⟩ := h
  replace h := aN_el h
  obtain ⟨rfl, h⟩ := h
  refine Eq.mpr (nf_chunk_Of p K) ?_
  unfold m_chunk_Of at h
  revert h
  exact br_So (fun h => h) (fun h => h)

theorem ok_chunk_one_there : SpecOK Try.prog elTT 128 (sp_chunk_one_there m_chunk_one_there) := by
  refine spec_of_exF (cfg := (cfg_chunk_one_there m_layout_Layout_Chunks)) (cfg_ok rfl rfl rfl) (sig_cons ok_layout_Layout_Chunks sig_nil) (fn := Try.f128) (by kernel_rfl) (by kernel_rfl) (by kernel_rfl) ?_
  intro args H K h
  change tr_chunk_one_there m_chunk_one_there args H K at h
  unfold tr_chunk_one_there at h
  replace h := aC_el h
  obtain ⟨a0, _, rfl, h⟩ := h
  replace h := aN_el h
  obtain ⟨rfl, h⟩ := h
  replace h := aAgg_el h
  obtain ⟨c0, rfl, h⟩ := h
  replace h := d_chunk_one_el h
  obtain ⟨xv, rfl, h⟩ := h
  replace h := aN_el h
  obtain ⟨rfl, h⟩ := h
  refine Eq.mpr (nf_chunk_one_there m_layout_Layout_Chunks xv K) ?_
  unfold m_chunk_one_there at h
  revert h
  exact br_So (bind_So fun y0 => fun h => h) (fun h => h)

theorem ok_chunk_one_pages : SpecOK Try.prog elTT 80 (sp_chunk_one_pages m_chunk_one_pages) := by
  refine spec_of_exF (cfg := (cfg_chunk_one_pages m_chunk_one_there m_layout_Layout_Config)) (cfg_ok rfl rfl rfl) (sig_cons ok_chunk_one_there (sig_cons ok_layout_Layout_Config sig_nil)) (fn := Try.f80) (by kernel_rfl) (by kernel_rfl) (by kernel_rfl) ?_
  intro args H K h
  change tr_chunk_one_pages m_chunk_one_pages args H K at h
  unfold tr_chunk_one_pages at h
  replace h := aC_el h
  obtain ⟨a0, _, rfl, h⟩ := h
  replace h := aN_el h
  obtain ⟨rfl, h⟩ := h
  replace h := aAgg_el h
  obtain ⟨c0, rfl, h⟩ := h
  replace h := d_chunk_one_el h
  obtain ⟨xv, rfl, h⟩ := h
  replace h := aN_el h
  obtain ⟨rfl, h⟩ := h
  refine Eq.mpr (nf_chunk_one_pages m_chunk_one_there m_layout_Layout_Config xv K) ?_
  unfold m_chunk_one_pages at h
  revert h
  exact bind_So fun y0 => br_So (fun h => h) (bind_So fun y1 => fun h => h)

theorem ok_chunk_Pages : SpecOK Try.prog elTT 23 (sp_chunk_Pages m_chunk_Pages) := by
  refine spec_of_exF (cfg := (cfg_chunk_Pages m_chunk_one_pages)) (cfg_ok rfl rfl rfl) (sig_cons ok_chunk_one_pages sig_nil) (fn := Try.f23) (by kernel_rfl) (by kernel_rfl) (by kernel_rfl) ?_
  intro args H K h
  change tr_chunk_Pages m_chunk_Pages args H K at h
  unfold tr_chunk_Pages at h
  replace h := aC_el h
  obtain ⟨a0, _, rfl, h⟩ := h
  replace h := aC_el h
  obtain ⟨a1, _, rfl, h⟩ := h
  replace h := aN_el h
  obtain ⟨rfl, h⟩ := h
  replace h := aAgg_el h
  obtain ⟨c0, rfl, h⟩ := h
  replace h := d_layout_Layout_el h
  obtain ⟨l2, rfl, h⟩ := h
  replace h := aInt_el h
  obtain ⟨k, rfl, h⟩ := h
  replace h := aN_el h
  obtain ⟨rfl, h⟩ := h
  refine Eq.mpr (nf_chunk_Pages m_chunk_one_pages l2 k K) ?_
  unfold m_chunk_Pages at h
  revert h
  exact bind_So fun y0 => fun h => h

theorem ok_chunk_span : SpecOK Try.prog elTT 82 (sp_chunk_span m_chunk_span) := by
  refine spec_of_exF (cfg := (cfg_chunk_span m_layout_Layout_Config m_chunk_Of)) (cfg_ok rfl rfl rfl) (sig_cons ok_layout_Layout_Config (sig_cons ok_chunk_Of sig_nil)) (fn := Try.f82) (by kernel_rfl) (by kernel_rfl) (by kernel_rfl) ?_
  intro args H K h
  change tr_chunk_span m_chunk_span args H K at h
  unfold tr_chunk_span at h
  replace h := aC_el h
  obtain ⟨a0, _, rfl, h⟩ := h
  replace h := aC_el h
  obtain ⟨a1, _, rfl, h⟩ := h
  replace h := aC_el h
  obtain ⟨a2, _, rfl, h⟩ := h
  replace h := aN_el h
  obtain ⟨rfl, h⟩ := h
  replace h := aAgg_el h
  obtain ⟨c0, rfl, h⟩ := h
  replace h := d_layout_Layout_el h
  obtain ⟨l2, rfl, h⟩ := h
  replace h := aInt_el h
  obtain ⟨p, rfl, h⟩ := h
  replace h := aInt_el h
  obtain ⟨n, rfl, h⟩ := h
  replace h := aN_el h
  obtain ⟨rfl, h⟩ := h
  refine Eq.mpr (nf_chunk_span m_layout_Layout_Config m_chunk_Of l2 p n K) ?_
  unfold m_chunk_span at h
  revert h
  exact bind_So fun y0 => br_So (fun h => h) (br_So (fun h => h) (br_So (fun h => h) (br_So (fun h => h) (bind_So fun y1 => bind_So fun y2 => fun h => h))))

theorem ok_chunk_one_is : SpecOK Try.prog elTT 117 (sp_chunk_one_is m_chunk_one_is) := by
  refine spec_of_exF (cfg := (cfg_chunk_one_is m_chunk_one_there m_layout_Layout_Table)) (cfg_ok rfl rfl rfl) (sig_cons ok_chunk_one_there (sig_cons ok_layout_Layout_Table (sig_cons rd_ok sig_nil))) (fn := Try.f117) (by kernel_rfl) (by kernel_rfl) (by kernel_rfl) ?_
  intro args H K h
  change tr_chunk_one_is m_chunk_one_is args H K at h
  unfold tr_chunk_one_is at h
  replace h := aC_el h
  obtain ⟨a0, _, rfl, h⟩ := h
  replace h := aC_el h
  obtain ⟨a1, _, rfl, h⟩ := h
  replace h := aC_el h
  obtain ⟨a2, _, rfl, h⟩ := h
  replace h := aN_el h
  obtain ⟨rfl, h⟩ := h
  replace h := aAgg_el h
  obtain ⟨c0, rfl, h⟩ := h
  replace h := d_chunk_one_el h
  obtain ⟨xv, rfl, h⟩ := h
  replace h := aPtr_el h
  obtain ⟨rfl, h⟩ := h
  replace h := aInt_el h
  obtain ⟨state, rfl, h⟩ := h
  replace h := aC_el h
  obtain ⟨b0, _, rfl, h⟩ := h
  replace h := aC_el h
  obtain ⟨b1, _, rfl, h⟩ := h
  replace h := aN_el h
  obtain ⟨rfl, h⟩ := h
  replace h := bView_el h
  obtain ⟨ws, cur, xs, rfl, h⟩ := h
  replace h := bRow_el h
  obtain ⟨(l : List Int), rfl, h⟩ := h
  obtain ⟨rfl, hx, h⟩ := h
  refine Eq.mpr (nf_chunk_one_is m_chunk_one_there m_layout_Layout_Table ws cur xs xv state K) ?_
  unfold m_chunk_one_is at h
  revert h
  exact bind_So fun y0 => br_So (bind_So fun y1 => and_So (by first | exact rfl | assumption | exact trivial | omega) (and_So (by first | exact rfl | assumption | exact trivial | omega) (req_So (fun h => h)))) (fun h => h)

theorem ok_chunk_one_turn : SpecOK Try.prog elTT 81 (sp_chunk_one_turn m_chunk_one_turn) := by
  refine spec_of_exF (cfg := (cfg_chunk_one_turn m_chunk_one_there m_chunk_one_is m_layout_Layout_Table)) (cfg_ok rfl rfl rfl) (sig_cons ok_chunk_one_there (sig_cons ok_chunk_one_is (sig_cons ok_layout_Layout_Table (sig_cons wr_ok sig_nil)))) (fn := Try.f81) (by kernel_rfl) (by kernel_rfl) (by kernel_rfl) ?_
  intro args H K h
  change tr_chunk_one_turn m_chunk_one_turn args H K at h
  unfold tr_chunk_one_turn at h
  replace h := aC_el h
  obtain ⟨a0, _, rfl, h⟩ := h
  replace h := aC_el h
  obtain ⟨a1, _, rfl, h⟩ := h
  replace h := aC_el h
  obtain ⟨a2, _, rfl, h⟩ := h
  replace h := aN_el h
  obtain ⟨rfl, h⟩ := h
  replace h := aAgg_el h
  obtain ⟨c0, rfl, h⟩ := h
  replace h := d_chunk_one_el h
  obtain ⟨xv, rfl, h⟩ := h
  replace h := aPtr_el h
  obtain ⟨rfl, h⟩ := h
  replace h := aInt_el h
  obtain ⟨state, rfl, h⟩ := h
  replace h := aC_el h
  obtain ⟨b0, _, rfl, h⟩ := h
  replace h := aC_el h
  obtain ⟨b1, _, rfl, h⟩ := h
  replace h := aN_el h
  obtain ⟨rfl, h⟩ := h
  replace h := bView_el h
  obtain ⟨ws, cur, xs, rfl, h⟩ := h
  replace h := bRow_el h
  obtain ⟨(l : List Int), rfl, h⟩ := h
  obtain ⟨rfl, hx, h⟩ := h
  refine Eq.mpr (nf_chunk_one_turn m_chunk_one_there m_chunk_one_is m_layout_Layout_Table ws cur xs xv state K) ?_
  unfold m_chunk_one_turn at h
  revert h
  exact bind_So fun y0 => br_So (fun h => h) (and_So (by first | exact rfl | assumption | exact trivial | omega) (and_So (by first | exact rfl | assumption | exact trivial | omega) (bind_So fun y1 => br_So (fun h => h) (bind_So fun y2 => and_So (by first | exact rfl | assumption | exact trivial | omega) (and_So (by first | exact rfl | assumption | exact trivial | omega) (req_So (fun h => h)))))))

theorem ok_chunk_Map : SpecOK Try.prog elTT 24 (sp_chunk_Map m_chunk_Map) := by
  refine spec_of_exF (cfg := (cfg_chunk_Map m_chunk_one_turn)) (cfg_ok rfl rfl rfl) (sig_cons ok_chunk_one_turn sig_nil) (fn := Try.f24) (by kernel_rfl) (by kernel_rfl) (by kernel_rfl) ?_
  intro args H K h
  change tr_chunk_Map m_chunk_Map args H K at h
  unfold tr_chunk_Map at h
  replace h := aC_el h
  obtain ⟨a0, _, rfl, h⟩ := h
  replace h := aC_el h
  obtain ⟨a1, _, rfl, h⟩ := h
  replace h := aC_el h
  obtain ⟨a2, _, rfl, h⟩ := h
  replace h := aN_el h
  obtain ⟨rfl, h⟩ := h
  replace h := aPtr_el h
  obtain ⟨rfl, h⟩ := h
  replace h := aAgg_el h
  obtain ⟨c1, rfl, h⟩ := h
  replace h := d_layout_Layout_el h
  obtain ⟨l2, rfl, h⟩ := h
  replace h := aInt_el h
  obtain ⟨k, rfl, h⟩ := h
  replace h := aC_el h
  obtain ⟨b0, _, rfl, h⟩ := h
  replace h := aC_el h
  obtain ⟨b1, _, rfl, h⟩ := h
  replace h := aN_el h
  obtain ⟨rfl, h⟩ := h
  replace h := bView_el h
  obtain ⟨ws, cur, xs, rfl, h⟩ := h
  replace h := bRow_el h
  obtain ⟨(l : List Int), rfl, h⟩ := h
  obtain ⟨rfl, hx, h⟩ := h
  refine Eq.mpr (nf_chunk_Map m_chunk_one_turn ws cur xs l2 k K) ?_
  unfold m_chunk_Map at h
  revert h
  exact and_So (by first | exact rfl | assumption | exact trivial | omega) (and_So (by first | exact rfl | assumption | exact trivial | omega) (bind_So fun y0 => fun h => h))

theorem ok_chunk_Unmap : SpecOK Try.prog elTT 25 (sp_chunk_Unmap m_chunk_Unmap) := by
  refine spec_of_exF (cfg := (cfg_chunk_Unmap m_chunk_one_turn)) (cfg_ok rfl rfl rfl) (sig_cons ok_chunk_one_turn sig_nil) (fn := Try.f25) (by kernel_rfl) (by kernel_rfl) (by kernel_rfl) ?_
  intro args H K h
  change tr_chunk_Unmap m_chunk_Unmap args H K at h
  unfold tr_chunk_Unmap at h
  replace h := aC_el h
  obtain ⟨a0, _, rfl, h⟩ := h
  replace h := aC_el h
  obtain ⟨a1, _, rfl, h⟩ := h
  replace h := aC_el h
  obtain ⟨a2, _, rfl, h⟩ := h
  replace h := aN_el h
  obtain ⟨rfl, h⟩ := h
  replace h := aPtr_el h
  obtain ⟨rfl, h⟩ := h
  replace h := aAgg_el h
  obtain ⟨c1, rfl, h⟩ := h
  replace h := d_layout_Layout_el h
  obtain ⟨l2, rfl, h⟩ := h
  replace h := aInt_el h
  obtain ⟨k, rfl, h⟩ := h
  replace h := aC_el h
  obtain ⟨b0, _, rfl, h⟩ := h
  replace h := aC_el h
  obtain ⟨b1, _, rfl, h⟩ := h
  replace h := aN_el h
  obtain ⟨rfl, h⟩ := h
  replace h := bView_el h
  obtain ⟨ws, cur, xs, rfl, h⟩ := h
  replace h := bRow_el h
  obtain ⟨(l : List Int), rfl, h⟩ := h
  obtain ⟨rfl, hx, h⟩ := h
  refine Eq.mpr (nf_chunk_Unmap m_chunk_one_turn ws cur xs l2 k K) ?_
  unfold m_chunk_Unmap at h
  revert h
  exact and_So (by first | exact rfl | assumption | exact trivial | omega) (and_So (by first | exact rfl | assumption | exact trivial | omega) (bind_So fun y0 => fun h => h))

theorem ok_chunk_Mapped : SpecOK Try.prog elTT 67 (sp_chunk_Mapped m_chunk_Mapped) := by
  refine spec_of_exF (cfg := (cfg_chunk_Mapped m_chunk_one_is)) (cfg_ok rfl rfl rfl) (sig_cons ok_chunk_one_is sig_nil) (fn := Try.f67) (by kernel_rfl) (by kernel_rfl) (by kernel_rfl) ?_
  intro args H K h
  change tr_chunk_Mapped m_chunk_Mapped args H K at h
  unfold tr_chunk_Mapped at h
  replace h := aC_el h
  obtain ⟨a0, _, rfl, h⟩ := h
  replace h := aC_el h
  obtain ⟨a1, _, rfl, h⟩ := h
  replace h := aC_el h
  obtain ⟨a2, _, rfl, h⟩ := h
  replace h := aN_el h
  obtain ⟨rfl, h⟩ := h
  replace h := aPtr_el h
  obtain ⟨rfl, h⟩ := h
  replace h := aAgg_el h
  obtain ⟨c1, rfl, h⟩ := h
  replace h := d_layout_Layout_el h
  obtain ⟨l2, rfl, h⟩ := h
  replace h := aInt_el h
  obtain ⟨k, rfl, h⟩ := h
  replace h := aC_el h
  obtain ⟨b0, _, rfl, h⟩ := h
  replace h := aC_el h
  obtain ⟨b1, _, rfl, h⟩ := h
  replace h := aN_el h
  obtain ⟨rfl, h⟩ := h
  replace h := bView_el h
  obtain ⟨ws, cur, xs, rfl, h⟩ := h
  replace h := bRow_el h
  obtain ⟨(l : List Int), rfl, h⟩ := h
  obtain ⟨rfl, hx, h⟩ := h
  refine Eq.mpr (nf_chunk_Mapped m_chunk_one_is ws cur xs l2 k K) ?_
  unfold m_chunk_Mapped at h
  revert h
  exact and_So (by first | exact rfl | assumption | exact trivial | omega) (and_So (by first | exact rfl | assumption | exact trivial | omega) (bind_So fun y0 => fun h => h))

theorem lpok_chunk_Covers_L1 (ws : List Int) (cur : List Int) (xs : List Value) (l2 : T_layout_Layout) (p : Int) (n : Int) (last : Int) (ok : Bool) (k : Int) (K : V → Heap → Prop) (hx : xs.length ≤ 2) : So (lp_chunk_Covers_L1 (ws.length) (cur) (l2) (last) (ok, k)) (fun (x : Bool) => K (vb (x)) [.pk 0 [ws, cur] xs [.row 1], .row 0 ws true]) → Loop (cfg_chunk_Covers m_chunk_span m_chunk_Mapped) (⟨35, 2⟩ : Cx) (at_ (bodyOf Try.f28) [1, 1, 0, 1, 0, 0]) (mkEnv [(0, .ptr 0 0), (5, .ptr 2 0), (10, vi (last)), (11, vb (ok)), (12, vi (k))]) [.pk 0 [ws, cur] (xs) [.row 1], .row 0 (ws : List (Int)) Bool.true, .cells 28 (e_layout_Layout l2)] (contK (cfg_chunk_Covers m_chunk_span m_chunk_Mapped) (⟨35, 2⟩ : Cx) (bodyOf Try.f28) [1, 1, 0, 1, 0] (retK (cfg_chunk_Covers m_chunk_span m_chunk_Mapped) Try.f28 2 K)) := by
  refine loopK_So (fun (s_ : Bool × Int) => (mkEnv [(0, .ptr 0 0), (5, .ptr 2 0), (10, vi (last)), (11, vb ((s_.1))), (12, vi ((s_.2)))])) (fun (s_ : Bool × Int) => [.pk 0 [ws, cur] (xs) [.row 1], .row 0 (ws : List (Int)) Bool.true, .cells 28 (e_layout_Layout l2)]) (fun (x : Bool) => K (vb (x)) [.pk 0 [ws, cur] xs [.row 1], .row 0 ws true]) ?_ (ok, k)
  intro s_ J1 h
  clear ok
  clear k
  obtain ⟨ok, k⟩ := s_
  refine Eq.mpr (nf_chunk_Covers_L1 m_chunk_span m_chunk_Mapped ws cur xs l2 p n last ok k K J1) ?_
  have h : So (sb_chunk_Covers_L1 (ws.length) (cur) (l2) (last) ok k) _ := h
  unfold sb_chunk_Covers_L1 at h
  revert h
  exact br_So (br_So (and_So (by first | exact rfl | assumption | exact trivial | omega) (and_So (by first | exact rfl | assumption | exact trivial | omega) (bind_So fun y0 => fun h => h))) (fun h => h)) (fun h => h)

theorem ok_chunk_Covers : SpecOK Try.prog elTT 28 (sp_chunk_Covers m_chunk_Covers) := by
  refine spec_of_exF (cfg := (cfg_chunk_Covers m_chunk_span m_chunk_Mapped)) (cfg_ok rfl rfl rfl) (sig_cons ok_chunk_span (sig_cons ok_chunk_Mapped sig_nil)) (fn := Try.f28) (by kernel_rfl) (by kernel_rfl) (by kernel_rfl) ?_
  intro args H K h
  change tr_chunk_Covers m_chunk_Covers args H K at h
  unfold tr_chunk_Covers at h
  replace h := aC_el h
  obtain ⟨a0, _, rfl, h⟩ := h
  replace h := aC_el h
  obtain ⟨a1, _, rfl, h⟩ := h
  replace h := aC_el h
  obtain ⟨a2, _, rfl, h⟩ := h
  replace h := aC_el h
  obtain ⟨a3, _, rfl, h⟩ := h
  replace h := aN_el h
  obtain ⟨rfl, h⟩ := h
  replace h := aPtr_el h
  obtain ⟨rfl, h⟩ := h
  replace h := aAgg_el h
  obtain ⟨c1, rfl, h⟩ := h
  replace h := d_layout_Layout_el h
  obtain ⟨l2, rfl, h⟩ := h
  replace h := aInt_el h
  obtain ⟨p, rfl, h⟩ := h
  replace h := aInt_el h
  obtain ⟨n, rfl, h⟩ := h
  replace h := aC_el h
  obtain ⟨b0, _, rfl, h⟩ := h
  replace h := aC_el h
  obtain ⟨b1, _, rfl, h⟩ := h
  replace h := aN_el h
  obtain ⟨rfl, h⟩ := h
  replace h := bView_el h
  obtain ⟨ws, cur, xs, rfl, h⟩ := h
  replace h := bRow_el h
  obtain ⟨(l : List Int), rfl, h⟩ := h
  obtain ⟨rfl, hx, h⟩ := h
  refine Eq.mpr (nf_chunk_Covers m_chunk_span m_chunk_Mapped ws cur xs l2 p n K) ?_
  unfold m_chunk_Covers at h
  revert h
  exact bind_So fun y0 => lpok_chunk_Covers_L1 ws cur xs l2 p n (Prod.fst (Prod.snd y0)) (Prod.snd (Prod.snd y0)) (Prod.fst y0) K hx

theorem lpok_chunk_Ensure_L1 (ws : List Int) (cur : List Int) (xs : List Value) (l2 : T_layout_Layout) (p : Int) (n : Int) (last : Int) (ok : Bool) (turned : Int) (k : Int) (cur2 : List Int) (K : V → Heap → Prop) (hx : xs.length ≤ 2) : So (lp_chunk_Ensure_L1 (ws.length) (l2) (last) (ok) (turned, k, cur2)) (fun (x : Int × (List Int)) => K (vi (x.1)) [.pk 0 [ws, x.2] xs [.row 1], .row 0 ws true]) → Loop (cfg_chunk_Ensure m_chunk_span m_chunk_Map m_chunk_Pages) (⟨47, 2⟩ : Cx) (at_ (bodyOf Try.f26) [1, 1, 1, 0, 1, 0, 0]) (mkEnv [(0, .ptr 0 0), (5, .ptr 2 0), (10, vi (last)), (11, vb (ok)), (12, vi (turned)), (13, vi (k))]) [.pk 0 [ws, cur2] (xs) [.row 1], .row 0 (ws : List (Int)) Bool.true, .cells 28 (e_layout_Layout l2)] (contK (cfg_chunk_Ensure m_chunk_span m_chunk_Map m_chunk_Pages) (⟨47, 2⟩ : Cx) (bodyOf Try.f26) [1, 1, 1, 0, 1, 0] (retK (cfg_chunk_Ensure m_chunk_span m_chunk_Map m_chunk_Pages) Try.f26 2 K)) := by
  refine loopK_So (fun (s_ : Int × Int × (List Int)) => (mkEnv [(0, .ptr 0 0), (5, .ptr 2 0), (10, vi (last)), (11, vb (ok)), (12, vi ((s_.1))), (13, vi ((s_.2.1)))])) (fun (s_ : Int × Int × (List Int)) => [.pk 0 [ws, (s_.2.2)] (xs) [.row 1], .row 0 (ws : List (Int)) Bool.true, .cells 28 (e_layout_Layout l2)]) (fun (x : Int × (List Int)) => K (vi (x.1)) [.pk 0 [ws, x.2] xs [.row 1], .row 0 ws true]) ?_ (turned, k, cur2)
  intro s_ J1 h
  clear turned
  clear k
  clear cur2
  obtain ⟨turned, k, cur2⟩ := s_
  refine Eq.mpr (nf_chunk_Ensure_L1 m_chunk_span m_chunk_Map m_chunk_Pages ws cur xs l2 p n last ok turned k cur2 K J1) ?_
  have h : So (sb_chunk_Ensure_L1 (ws.length) (l2) (last) (ok) turned k cur2) _ := h
  unfold sb_chunk_Ensure_L1 at h
  revert h
  exact br_So (br_So (and_So (by first | exact rfl | assumption | exact trivial | omega) (and_So (by first | exact rfl | assumption | exact trivial | omega) (bind_So fun y0 => br_So (bind_So fun y1 => fun h => h) (fun h => h)))) (fun h => h)) (fun h => h)

theorem ok_chunk_Ensure : SpecOK Try.prog elTT 26 (sp_chunk_Ensure m_chunk_Ensure) := by
  refine spec_of_exF (cfg := (cfg_chunk_Ensure m_chunk_span m_chunk_Map m_chunk_Pages)) (cfg_ok rfl rfl rfl) (sig_cons ok_chunk_span (sig_cons ok_chunk_Map (sig_cons ok_chunk_Pages sig_nil))) (fn := Try.f26) (by kernel_rfl) (by kernel_rfl) (by kernel_rfl) ?_
  intro args H K h
  change tr_chunk_Ensure m_chunk_Ensure args H K at h
  unfold tr_chunk_Ensure at h
  replace h := aC_el h
  obtain ⟨a0, _, rfl, h⟩ := h
  replace h := aC_el h
  obtain ⟨a1, _, rfl, h⟩ := h
  replace h := aC_el h
  obtain ⟨a2, _, rfl, h⟩ := h
  replace h := aC_el h
  obtain ⟨a3, _, rfl, h⟩ := h
  replace h := aN_el h
  obtain ⟨rfl, h⟩ := h
  replace h := aPtr_el h
  obtain ⟨rfl, h⟩ := h
  replace h := aAgg_el h
  obtain ⟨c1, rfl, h⟩ := h
  replace h := d_layout_Layout_el h
  obtain ⟨l2, rfl, h⟩ := h
  replace h := aInt_el h
  obtain ⟨p, rfl, h⟩ := h
  replace h := aInt_el h
  obtain ⟨n, rfl, h⟩ := h
  replace h := aC_el h
  obtain ⟨b0, _, rfl, h⟩ := h
  replace h := aC_el h
  obtain ⟨b1, _, rfl, h⟩ := h
  replace h := aN_el h
  obtain ⟨rfl, h⟩ := h
  replace h := bView_el h
  obtain ⟨ws, cur, xs, rfl, h⟩ := h
  replace h := bRow_el h
  obtain ⟨(l : List Int), rfl, h⟩ := h
  obtain ⟨rfl, hx, h⟩ := h
  refine Eq.mpr (nf_chunk_Ensure m_chunk_span m_chunk_Map m_chunk_Pages ws cur xs l2 p n K) ?_
  unfold m_chunk_Ensure at h
  revert h
  exact bind_So fun y0 => lpok_chunk_Ensure_L1 ws cur xs l2 p n (Prod.fst (Prod.snd y0)) (Prod.snd (Prod.snd y0)) (0) (Prod.fst y0) (cur) K hx

theorem lpok_chunk_Count_L1 (ws : List Int) (cur : List Int) (xs : List Value) (l2 : T_layout_Layout) (many : Int) (t10 : Int) (t11 : Int) (K : V → Heap → Prop) (hx : xs.length ≤ 2) : So (lp_chunk_Count_L1 (ws.length) (cur) (l2) (t10) (many, t11)) (fun (x : Int) => K (vi (x)) [.pk 0 [ws, cur] xs [.row 1], .row 0 ws true]) → Loop (cfg_chunk_Count m_layout_Layout_Chunks m_chunk_Mapped m_chunk_Pages) (⟨29, 2⟩ : Cx) (at_ (bodyOf Try.f22) [1, 1, 0, 1, 0, 0]) (mkEnv [(0, .ptr 0 0), (3, .ptr 2 0), (5, vi (many)), (10, vi (t10)), (11, vi (t11))]) [.pk 0 [ws, cur] (xs) [.row 1], .row 0 (ws : List (Int)) Bool.true, .cells 28 (e_layout_Layout l2)] (contK (cfg_chunk_Count m_layout_Layout_Chunks m_chunk_Mapped m_chunk_Pages) (⟨29, 2⟩ : Cx) (bodyOf Try.f22) [1, 1, 0, 1, 0] (retK (cfg_chunk_Count m_layout_Layout_Chunks m_chunk_Mapped m_chunk_Pages) Try.f22 2 K)) := by
  refine loopK_So (fun (s_ : Int × Int) => (mkEnv [(0, .ptr 0 0), (3, .ptr 2 0), (5, vi ((s_.1))), (10, vi (t10)), (11, vi ((s_.2)))])) (fun (s_ : Int × Int) => [.pk 0 [ws, cur] (xs) [.row 1], .row 0 (ws : List (Int)) Bool.true, .cells 28 (e_layout_Layout l2)]) (fun (x : Int) => K (vi (x)) [.pk 0 [ws, cur] xs [.row 1], .row 0 ws true]) ?_ (many, t11)
  intro s_ J1 h
  clear many
  clear t11
  obtain ⟨many, t11⟩ := s_
  refine Eq.mpr (nf_chunk_Count_L1 m_layout_Layout_Chunks m_chunk_Mapped m_chunk_Pages ws cur xs l2 many t10 t11 K J1) ?_
  have h : So (sb_chunk_Count_L1 (ws.length) (cur) (l2) (t10) many t11) _ := h
  unfold sb_chunk_Count_L1 at h
  revert h
  exact br_So (and_So (by first | exact rfl | assumption | exact trivial | omega) (and_So (by first | exact rfl | assumption | exact trivial | omega) (bind_So fun y0 => br_So (bind_So fun y1 => fun h => h) (fun h => h)))) (fun h => h)

theorem ok_chunk_Count : SpecOK Try.prog elTT 22 (sp_chunk_Count m_chunk_Count) := by
  refine spec_of_exF (cfg := (cfg_chunk_Count m_layout_Layout_Chunks m_chunk_Mapped m_chunk_Pages)) (cfg_ok rfl rfl rfl) (sig_cons ok_layout_Layout_Chunks (sig_cons ok_chunk_Mapped (sig_cons ok_chunk_Pages sig_nil))) (fn := Try.f22) (by kernel_rfl) (by kernel_rfl) (by kernel_rfl) ?_
  intro args H K h
  change tr_chunk_Count m_chunk_Count args H K at h
  unfold tr_chunk_Count at h
  replace h := aC_el h
  obtain ⟨a0, _, rfl, h⟩ := h
  replace h := aC_el h
  obtain ⟨a1, _, rfl, h⟩ := h
  replace h := aN_el h
  obtain ⟨rfl, h⟩ := h
  replace h := aPtr_el h
  obtain ⟨rfl, h⟩ := h
  replace h := aAgg_el h
  obtain ⟨c1, rfl, h⟩ := h
  replace h := d_layout_Layout_el h
  obtain ⟨l2, rfl, h⟩ := h
  replace h := aC_el h
  obtain ⟨b0, _, rfl, h⟩ := h
  replace h := aC_el h
  obtain ⟨b1, _, rfl, h⟩ := h
  replace h := aN_el h
  obtain ⟨rfl, h⟩ := h
  replace h := bView_el h
  obtain ⟨ws, cur, xs, rfl, h⟩ := h
  replace h := bRow_el h
  obtain ⟨(l : List Int), rfl, h⟩ := h
  obtain ⟨rfl, hx, h⟩ := h
  refine Eq.mpr (nf_chunk_Count m_layout_Layout_Chunks m_chunk_Mapped m_chunk_Pages ws cur xs l2 K) ?_
  unfold m_chunk_Count at h
  revert h
  exact bind_So fun y0 => lpok_chunk_Count_L1 ws cur xs l2 (0) (y0) (0) K hx

end Go.Rx
end

section
/- Layouts, plainly. -/
namespace Go.Rx
open Go.Proofs

/-- Which configurations may be. -/
structure RightC (c : T_api_Config) : Prop where
  workers : 1 ≤ c.Workers ∧ c.Workers ≤ 64
  cpus : 1 ≤ c.CPUs ∧ c.CPUs ≤ 8
  pages : 1 ≤ c.Pages ∧ c.Pages ≤ 256
  stripes : 1 ≤ c.Stripes ∧ c.Stripes ≤ 64
  tries : 0 ≤ c.Tries ∧ c.Tries ≤ 16
  wait : 0 ≤ c.Wait ∧ c.Wait ≤ 64
  clock : 1 ≤ c.Clock ∧ c.Clock ≤ 1099511627776
  private_ : 1 ≤ c.Private ∧ c.Private ≤ 8
  cache : 0 ≤ c.Cache ∧ c.Cache ≤ 8
  bin : 0 ≤ c.Bin ∧ c.Bin ≤ 16
  batch : 1 ≤ c.Batch ∧ c.Batch ≤ 8

instance (c : T_api_Config) : Decidable (RightC c) :=
  decidable_of_iff ((1 ≤ c.Workers ∧ c.Workers ≤ 64) ∧ (1 ≤ c.CPUs ∧ c.CPUs ≤ 8) ∧ (1 ≤ c.Pages ∧ c.Pages ≤ 256) ∧ (1 ≤ c.Stripes ∧ c.Stripes ≤ 64) ∧ (0 ≤ c.Tries ∧ c.Tries ≤ 16) ∧ (0 ≤ c.Wait ∧ c.Wait ≤ 64) ∧
    (1 ≤ c.Clock ∧ c.Clock ≤ 1099511627776) ∧ (1 ≤ c.Private ∧ c.Private ≤ 8) ∧ (0 ≤ c.Cache ∧ c.Cache ≤ 8) ∧ (0 ≤ c.Bin ∧ c.Bin ≤ 16) ∧ (1 ≤ c.Batch ∧ c.Batch ≤ 8))
    ⟨fun ⟨a, b, d, e, f, g, h, i, j, k, l⟩ => ⟨a, b, d, e, f, g, h, i, j, k, l⟩, fun ⟨a, b, d, e, f, g, h, i, j, k, l⟩ => ⟨a, b, d, e, f, g, h, i, j, k, l⟩⟩

theorem holds_eq (x : T_layout_limit) : m_layout_limit_holds x = some (decide (x.low ≤ x.n ∧ x.n ≤ x.high)) := by
  unfold m_layout_limit_holds
  by_cases a : x.low ≤ x.n <;> by_cases b : x.n ≤ x.high <;> simp [a, b]

theorem Check_eq (c : T_api_Config) : m_layout_Check c = some (if RightC c then 0 else 2) := by
  unfold m_layout_Check
  simp only [holds_eq, Option.bind_some]
  by_cases h : RightC c
  · obtain ⟨a, b, d, e, f, g, h', i, j, k, l⟩ := h
    have hR : RightC c := ⟨a, b, d, e, f, g, h', i, j, k, l⟩
    simp [a, b, d, e, f, g, h', i, j, k, l, hR]
  · rw [if_neg h]
    by_cases a : 1 ≤ c.Workers ∧ c.Workers ≤ 64
    case neg => rw [decide_eq_false a]; rfl
    rw [decide_eq_true a]; simp only [Bool.not_true, cond_false]
    by_cases b : 1 ≤ c.CPUs ∧ c.CPUs ≤ 8
    case neg => rw [decide_eq_false b]; rfl
    rw [decide_eq_true b]; simp only [Bool.not_true, cond_false]
    by_cases d : 1 ≤ c.Pages ∧ c.Pages ≤ 256
    case neg => rw [decide_eq_false d]; rfl
    rw [decide_eq_true d]; simp only [Bool.not_true, cond_false]
    by_cases e : 1 ≤ c.Stripes ∧ c.Stripes ≤ 64
    case neg => rw [decide_eq_false e]; rfl
    rw [decide_eq_true e]; simp only [Bool.not_true, cond_false]
    by_cases f : 0 ≤ c.Tries ∧ c.Tries ≤ 16
    case neg => rw [decide_eq_false f]; rfl
    rw [decide_eq_true f]; simp only [Bool.not_true, cond_false]
    by_cases g : 0 ≤ c.Wait ∧ c.Wait ≤ 64
    case neg => rw [decide_eq_false g]; rfl
    rw [decide_eq_true g]; simp only [Bool.not_true, cond_false]
    by_cases h' : 1 ≤ c.Clock ∧ c.Clock ≤ 1099511627776
    case neg => rw [decide_eq_false h']; rfl
    rw [decide_eq_true h']; simp only [Bool.not_true, cond_false]
    by_cases i : 1 ≤ c.Private ∧ c.Private ≤ 8
    case neg => rw [decide_eq_false i]; rfl
    rw [decide_eq_true i]; simp only [Bool.not_true, cond_false]
    by_cases j : 0 ≤ c.Cache ∧ c.Cache ≤ 8
    case neg => rw [decide_eq_false j]; rfl
    rw [decide_eq_true j]; simp only [Bool.not_true, cond_false]
    by_cases k : 0 ≤ c.Bin ∧ c.Bin ≤ 16
    case neg => rw [decide_eq_false k]; rfl
    rw [decide_eq_true k]; simp only [Bool.not_true, cond_false]
    by_cases l : 1 ≤ c.Batch ∧ c.Batch ≤ 8
    case neg => rw [decide_eq_false l]; rfl
    rw [decide_eq_true l]; simp only [Bool.not_true, cond_false]
    exact (h ⟨a, b, d, e, f, g, h', i, j, k, l⟩).elim

/-- A layout. -/
def layC (c : T_api_Config) : T_layout_Layout :=
  let a0 := 3 + c.Stripes
  let a1 := a0 + (c.Pages + 3) / 4
  let a6 := a1 + 5 * c.Pages
  let a7 := a6 + 62
  let a8 := a7 + c.CPUs * 5 * (c.Cache + 1)
  let a9 := a8 + 5 * (c.Bin + 1)
  let a10 := (a9 + c.Pages * 32 + 127) / 128 * 128
  ⟨c, a0, a1, a1 + c.Pages, a1 + 2 * c.Pages, a1 + 3 * c.Pages, a1 + 4 * c.Pages, a6, a7, a8, a9, a10, a10 + c.Pages * 32⟩

def cOf (L : T_layout_Layout) : T_api_Config := L.c

theorem prodC {c : T_api_Config} (h : RightC c) : 5 ≤ c.CPUs * 5 * (c.Cache + 1) ∧ c.CPUs * 5 * (c.Cache + 1) ≤ 360 := by
  obtain ⟨h1, h2⟩ := h.cpus
  obtain ⟨h3, h4⟩ := h.cache
  have e : c.CPUs = 1 ∨ c.CPUs = 2 ∨ c.CPUs = 3 ∨ c.CPUs = 4 ∨ c.CPUs = 5 ∨ c.CPUs = 6 ∨ c.CPUs = 7 ∨ c.CPUs = 8 := by omega
  rcases e with e | e | e | e | e | e | e | e <;> rw [e] <;> omega

theorem chunks_eq {p : Int} (h : 0 ≤ p ∧ p ≤ 1000000) : m_layout_chunks p = some ((p + 3) / 4) := by
  unfold m_layout_chunks
  rw [wrap_id (x := p + 4) (by omega) (by omega), wrap_id (x := p + 4 - 1) (by omega) (by omega), Int.tdiv_eq_ediv_of_nonneg (by omega), wrap_id (by omega) (by omega)]
  congr 2; omega

theorem Of_eq (c : T_api_Config) : m_layout_Of c = some (if RightC c then (layC c, 0) else (⟨⟨0,0,0,0,0,0,0,0,0,0,0⟩,0,0,0,0,0,0,0,0,0,0,0,0⟩, 2)) := by
  unfold m_layout_Of
  rw [Check_eq]
  by_cases h : RightC c
  · simp only [if_pos h, Option.bind_some]
    rw [chunks_eq (by have := h.pages; omega)]
    have hp := prodC h
    have h1 := h.pages
    have h2 := h.stripes
    have h3 := h.cpus
    have h4 := h.cache
    have h5 := h.bin
    simp only [Option.bind_some, bne_self_eq_false, cond_false]
    have w5 : IntKind.i64.wrap (c.CPUs * 5) = c.CPUs * 5 := wrap_id (by omega) (by omega)
    have w6 : IntKind.i64.wrap (c.Cache + 1) = c.Cache + 1 := wrap_id (by omega) (by omega)
    have w7 : IntKind.i64.wrap (c.CPUs * 5 * (c.Cache + 1)) = c.CPUs * 5 * (c.Cache + 1) := wrap_id (by omega) (by omega)
    rw [w5, w6, w7]
    unfold layC
    generalize c.CPUs * 5 * (c.Cache + 1) = q at *
    simp (disch := omega) only [wrap_id, Int.tdiv_eq_ediv_of_nonneg]
    congr 2
    simp only [T_layout_Layout.mk.injEq, true_and]
    refine ⟨?_, ?_, ?_, ?_, ?_, ?_, ?_, ?_, ?_⟩ <;> omega
  · simp only [if_neg h, Option.bind_some]
    rfl

/-- What is known of a layout. -/
structure LayOK (L : T_layout_Layout) : Prop where
  cpus : 1 ≤ L.c.CPUs ∧ L.c.CPUs ≤ 8
  pages : 1 ≤ L.c.Pages ∧ L.c.Pages ≤ 256
  stripes : 1 ≤ L.c.Stripes ∧ L.c.Stripes ≤ 64
  private_ : 1 ≤ L.c.Private ∧ L.c.Private ≤ 8
  cache : 0 ≤ L.c.Cache ∧ L.c.Cache ≤ 8
  bin : 0 ≤ L.c.Bin ∧ L.c.Bin ≤ 16
  batch : 1 ≤ L.c.Batch ∧ L.c.Batch ≤ 8
  a0 : L.at_0 = 3 + L.c.Stripes
  a1 : L.at_1 = L.at_0 + (L.c.Pages + 3) / 4
  a2 : L.at_2 = L.at_1 + L.c.Pages
  a3 : L.at_3 = L.at_1 + 2 * L.c.Pages
  a4 : L.at_4 = L.at_1 + 3 * L.c.Pages
  a5 : L.at_5 = L.at_1 + 4 * L.c.Pages
  a6 : L.at_6 = L.at_1 + 5 * L.c.Pages
  a7 : L.at_7 = L.at_6 + 62
  a8 : L.at_8 = L.at_7 + L.c.CPUs * 5 * (L.c.Cache + 1)
  a8b : L.at_7 + 5 ≤ L.at_8 ∧ L.at_8 ≤ L.at_7 + 360
  a9 : L.at_9 = L.at_8 + 5 * (L.c.Bin + 1)
  a10 : L.at_10 = (L.at_9 + L.c.Pages * 32 + 127) / 128 * 128
  a11 : L.at_11 = L.at_10 + L.c.Pages * 32

theorem layC_ok {c : T_api_Config} (h : RightC c) : LayOK (layC c) := by
  have hp := prodC h
  refine ⟨h.cpus, h.pages, h.stripes, h.private_, h.cache, h.bin, h.batch, rfl, rfl, ?_, ?_, ?_, ?_, ?_, ?_, ?_, ?_, ?_, ?_, ?_⟩ <;> simp only [layC] <;> (try omega)

theorem Config_eq (L : T_layout_Layout) : m_layout_Layout_Config L = some (cOf L) := rfl
theorem Words_eq (L : T_layout_Layout) : m_layout_Layout_Words L = some L.at_11 := rfl
theorem Chunks_eq {L : T_layout_Layout} (h : LayOK L) : m_layout_Layout_Chunks L = some ((L.c.Pages + 3) / 4) := by
  unfold m_layout_Layout_Chunks
  rw [chunks_eq (by have := h.pages; omega)]; rfl

def lTab (L : T_layout_Layout) (k : Int) : Int := if 0 ≤ k ∧ k < (L.c.Pages + 3) / 4 then L.at_0 + k else 0
theorem Table_eq {L : T_layout_Layout} (h : LayOK L) (k : Int) : m_layout_Layout_Table L k = some (lTab L k) := by
  unfold m_layout_Layout_Table
  rw [Chunks_eq h]
  have := h.pages; have := h.a0; have := h.stripes
  simp only [Option.bind_some, lTab]
  by_cases a : k < 0
  · rw [decide_eq_true a, if_neg (by omega)]; rfl
  · rw [decide_eq_false a]
    by_cases b : k < (L.c.Pages + 3) / 4
    · rw [decide_eq_false (show ¬ k ≥ (L.c.Pages + 3) / 4 by omega), if_pos (by omega), wrap_id (by omega) (by omega)]; rfl
    · rw [decide_eq_true (show k ≥ (L.c.Pages + 3) / 4 by omega), if_neg (by omega)]; rfl
theorem LayOK.big {L : T_layout_Layout} (h : LayOK L) : 128 ≤ L.at_10 ∧ L.at_10 ≤ 20000 ∧ L.at_9 + L.c.Pages * 32 ≤ L.at_10 ∧ 0 ≤ L.at_9 := by
  have := h.pages; have := h.a0; have := h.stripes; have := h.a1; have := h.a6; have := h.a7; have h3 := h.a8b; have h4 := h.bin; have := h.a9; have := h.a10
  omega
end Go.Rx
end

section
/- Loops as plain functions: how they end. -/
namespace Go.Rx
theorem loopO_ind {σ ρ : Type} {step : σ → Option (σ ⊕ ρ)} (I : σ → Prop) (μ : σ → Nat) (Q : ρ → Prop)
    (h : ∀ s, I s → (∃ s', step s = some (.inl s') ∧ I s' ∧ μ s' < μ s) ∨ (∃ r, step s = some (.inr r) ∧ Q r)) (s : σ) (hs : I s) : ∃ r, loopO step s = some r ∧ Q r := by
  have key : ∀ n s, I s → μ s ≤ n → ∃ r, loopO step s = some r ∧ Q r := by
    intro n
    induction n with
    | zero =>
      intro s hs hm
      rcases h s hs with ⟨s', h1, h2, h3⟩ | ⟨r, h1, h2⟩
      · omega
      · exact ⟨r, loopO_end h1, h2⟩
    | succ n ih =>
      intro s hs hm
      rcases h s hs with ⟨s', h1, h2, h3⟩ | ⟨r, h1, h2⟩
      · rw [loopO_go h1]; exact ih s' h2 (by omega)
      · exact ⟨r, loopO_end h1, h2⟩
  exact key _ s hs (Nat.le_refl _)

/-! Lists without two of a kind. -/
structure Inv (P : Int → Prop) (w : List Int) : Prop where
  nd : w.Nodup
  all : ∀ x ∈ w, P x
theorem Inv.push {P P' : Int → Prop} {w : List Int} {e : Int} (h : Inv P w) (he : ¬ P e) (h1 : ∀ x, P x → P' x) (h2 : P' e) : Inv P' (w ++ [e]) := by
  refine ⟨List.nodup_append.2 ⟨h.nd, by simp, ?_⟩, fun x hx => ?_⟩
  · intro a ha b hb hab
    simp at hb
    subst hb; subst hab
    exact he (h.all _ ha)
  · rcases List.mem_append.1 hx with hx | hx
    · exact h1 x (h.all x hx)
    · simp at hx; subst hx; exact h2
theorem Inv.mono {P P' : Int → Prop} {w : List Int} (h : Inv P w) (h1 : ∀ x, P x → P' x) : Inv P' w := ⟨h.nd, fun x hx => h1 x (h.all x hx)⟩
theorem nodupN_len : ∀ {n : Nat} {l : List Nat}, l.Nodup → (∀ x ∈ l, x < n) → l.length ≤ n
  | 0, l, _, hb => by
    cases l with
    | nil => simp
    | cons x r => have := hb x (by simp); omega
  | n + 1, l, h, hb => by
    by_cases hn : n ∈ l
    · have h1 := h.erase n
      have h2 : ∀ x ∈ l.erase n, x < n := fun x hx => by
        have := (h.mem_erase_iff).1 hx
        have := hb x this.2
        omega
      have := nodupN_len h1 h2
      rw [List.length_erase_of_mem hn] at this
      omega
    · have := nodupN_len h (n := n) (fun x hx => by
        have := hb x hx
        have : x ≠ n := fun e => hn (e ▸ hx)
        omega)
      omega
theorem nodupI_len {N : Nat} {w : List Int} (h : w.Nodup) (hb : ∀ x ∈ w, 0 ≤ x ∧ x < (N : Int)) : w.length ≤ N := by
  have h1 : (w.map Int.toNat).Nodup := by
    refine List.pairwise_map.2 (List.Pairwise.imp_of_mem (fun {a b} ha hb' hab => ?_) h)
    have := hb a ha; have := hb b hb'; omega
  have h3 := nodupN_len h1 (n := N) (fun x hx => by
    obtain ⟨y, hy, rfl⟩ := List.mem_map.1 hx
    have := hb y hy
    omega)
  simpa using h3
theorem Inv.len {P : Int → Prop} {w : List Int} {N : Int} (h : Inv P w) (hP : ∀ x, P x → 0 ≤ x ∧ x < N) (hN : 0 ≤ N) : (w.length : Int) ≤ N := by
  have := nodupI_len (N := N.toNat) h.nd (fun x hx => by have := hP x (h.all x hx); omega)
  omega
end Go.Rx
end

section
/- Layer 8, plainly: which chunks of pages are mapped. -/
namespace Go.Rx
open Go.Proofs

def thereB (pg k : Int) : Bool := decide (0 ≤ k) && decide (k < (pg + 3) / 4)

def pagesI (pg k : Int) : Int := bif thereB pg k then 4 * k else 0

def pagesN (pg k : Int) : Int := bif thereB pg k then min 4 (pg - 4 * k) else 0

def chunkI (p : Int) : Int := bif decide (p < 0) then -1 else p / 4

def spanB (pg p n : Int) : Bool := decide (1 ≤ n) && (decide (0 ≤ p) && (decide (p < pg) && decide (n ≤ pg - p)))

def isB (cur : List Int) (pg tb k st : Int) : Bool := thereB pg k && (cur.getD (tb + k).toNat 0 == st)

def turnB (cur : List Int) (pg tb k st : Int) : Bool := thereB pg k && !((cur.getD (tb + k).toNat 0 == 1) == (st == 1))

def turnU (cur : List Int) (pg tb k st : Int) : List Int := bif turnB cur pg tb k st then cur.set (tb + k).toNat st else cur

/-- So many chunks, from one on, are turned to be mapped: how many pages were turned, and the words then. -/
def ensG (pg tb : Int) (cur : List Int) (a : Int) : Nat → Int × List Int
  | 0 => (0, cur)
  | n + 1 => (bif turnB (ensG pg tb cur a n).2 pg tb (a + n) 1 then (ensG pg tb cur a n).1 + pagesN pg (a + n) else (ensG pg tb cur a n).1, turnU (ensG pg tb cur a n).2 pg tb (a + n) 1)

def ensK (pg p n : Int) : Nat := bif spanB pg p n then ((p + n - 1) / 4 - p / 4 + 1).toNat else 0

def ensM (cur : List Int) (pg tb p n : Int) : Int × List Int := ensG pg tb cur (p / 4) (ensK pg p n)

theorem there_of {pg k : Int} (h : thereB pg k = true) : 0 ≤ k ∧ k < (pg + 3) / 4 := by
  unfold thereB at h; simpa using h

theorem turnU_len (cur : List Int) (pg tb k st : Int) : (turnU cur pg tb k st).length = cur.length := by
  unfold turnU; cases turnB cur pg tb k st <;> simp

theorem ensG_len (pg tb : Int) (cur : List Int) (a : Int) : ∀ n, (ensG pg tb cur a n).2.length = cur.length
  | 0 => rfl
  | n + 1 => by rw [ensG, turnU_len, ensG_len]

theorem pagesN_le (pg k : Int) : 0 ≤ pagesN pg k ∧ pagesN pg k ≤ 4 := by
  unfold pagesN
  cases h : thereB pg k with
  | false => exact ⟨Int.le_refl _, by show (0 : Int) ≤ 4; omega⟩
  | true =>
    unfold thereB at h
    simp at h
    show 0 ≤ min 4 (pg - 4 * k) ∧ min 4 (pg - 4 * k) ≤ 4
    omega

theorem ensG_le (pg tb : Int) (cur : List Int) (a : Int) : ∀ n : Nat, 0 ≤ (ensG pg tb cur a n).1 ∧ (ensG pg tb cur a n).1 ≤ 4 * (n : Int)
  | 0 => ⟨Int.le_refl _, by show (0 : Int) ≤ 4 * 0; omega⟩
  | n + 1 => by
    have h1 := ensG_le pg tb cur a n
    have h2 := pagesN_le pg (a + n)
    simp only [ensG]
    cases turnB (ensG pg tb cur a n).2 pg tb (a + n) 1 with
    | false => exact ⟨h1.1, by show (ensG pg tb cur a n).1 ≤ _; omega⟩
    | true => exact ⟨by show 0 ≤ (ensG pg tb cur a n).1 + _; omega, by show (ensG pg tb cur a n).1 + _ ≤ _; omega⟩

theorem span_of {pg p n : Int} (h : spanB pg p n = true) : 1 ≤ n ∧ 0 ≤ p ∧ p < pg ∧ n ≤ pg - p := by
  unfold spanB at h; simpa using h

def cntN (cur : List Int) (pg tb : Int) : Nat → Int
  | 0 => 0
  | n + 1 => cntN cur pg tb n + (bif isB cur pg tb n 1 then pagesN pg n else 0)
def chunksN (pg : Int) : Nat := ((pg + 3) / 4).toNat
/-- How many pages are mapped. -/
def countM (cur : List Int) (pg tb : Int) : Int := cntN cur pg tb (chunksN pg)
def allN (cur : List Int) (pg tb a : Int) : Nat → Bool
  | 0 => true
  | n + 1 => allN cur pg tb a n && isB cur pg tb (a + n) 1
def coversM (cur : List Int) (pg tb p n : Int) : Bool := spanB pg p n && allN cur pg tb (p / 4) (ensK pg p n)

theorem allN_iff {cur : List Int} {pg tb a : Int} : ∀ {n : Nat}, allN cur pg tb a n = true ↔ ∀ i : Nat, i < n → isB cur pg tb (a + i) 1 = true
  | 0 => by simp [allN]
  | n + 1 => by
    simp only [allN, Bool.and_eq_true]
    rw [allN_iff]
    constructor
    · rintro ⟨h1, h2⟩ i hi
      by_cases e : i = n
      · subst e; exact h2
      · exact h1 i (by omega)
    · intro h
      exact ⟨fun i hi => h i (by omega), h n (by omega)⟩

/-- No word changes but the table's. -/
theorem turn_out {cur : List Int} {pg tb k st : Int} {j : Nat} (htb : 0 ≤ tb) (h : (j : Int) < tb ∨ tb + (pg + 3) / 4 ≤ (j : Int)) : (turnU cur pg tb k st)[j]? = cur[j]? := by
  unfold turnU
  cases ht : turnB cur pg tb k st with
  | false => rfl
  | true =>
    have hk : thereB pg k = true := by unfold turnB at ht; simp only [Bool.and_eq_true] at ht; exact ht.1
    obtain ⟨k1, k2⟩ := there_of hk
    show (cur.set _ _)[j]? = _
    rw [List.getElem?_set_ne (by omega)]

theorem ens_out {cur : List Int} {pg tb a : Int} {j : Nat} (htb : 0 ≤ tb) (h : (j : Int) < tb ∨ tb + (pg + 3) / 4 ≤ (j : Int)) : ∀ n, (ensG pg tb cur a n).2[j]? = cur[j]?
  | 0 => rfl
  | n + 1 => by simp only [ensG]; rw [turn_out htb h, ens_out htb h n]


theorem ensK_span {pg p n : Int} (h : spanB pg p n = true) : ensK pg p n = ((p + n - 1) / 4 - p / 4 + 1).toNat := by
  unfold ensK; rw [h]; rfl

/-! What the program's functions tell. -/
theorem imin4 (x : Int) : (if x < 4 then x else 4) = min 4 x := by rw [Int.min_def]; split <;> split <;> omega
theorem cOf_eq {p : Int} (h : -9223372036854775808 ≤ p ∧ p ≤ 9223372036854775807) : m_chunk_Of p = some (chunkI p) := by
  unfold m_chunk_Of chunkI
  by_cases a : p < 0
  · rw [decide_eq_true a]; rfl
  · rw [decide_eq_false a, Int.tdiv_eq_ediv_of_nonneg (by omega), wrap_id (by omega) (by omega)]; rfl
theorem there_eq {L : T_layout_Layout} (h : LayOK L) (k : Int) : m_chunk_one_there ⟨L, k⟩ = some (thereB L.c.Pages k) := by
  unfold m_chunk_one_there thereB
  simp only [Chunks_eq h, Option.bind_some]
  by_cases a : 0 ≤ k
  · rw [decide_eq_true (show k ≥ 0 from a)]; rfl
  · rw [decide_eq_false (show ¬ k ≥ 0 from a)]; rfl
theorem opages_eq {L : T_layout_Layout} (h : LayOK L) (k : Int) : m_chunk_one_pages ⟨L, k⟩ = some (pagesI L.c.Pages k, pagesN L.c.Pages k) := by
  unfold m_chunk_one_pages pagesI pagesN
  simp only [there_eq h, Config_eq, Option.bind_some, cOf]
  have := h.pages
  cases hk : thereB L.c.Pages k with
  | false => rfl
  | true =>
    obtain ⟨k1, k2⟩ := there_of hk
    simp only [Bool.not_true, cond_false, cond_true]
    rw [wrap_id (x := k * 4) (by omega) (by omega), wrap_id (by omega) (by omega), imin4, Int.mul_comm k 4]
theorem Pages_eq {L : T_layout_Layout} (h : LayOK L) (k : Int) : m_chunk_Pages L k = some (pagesI L.c.Pages k, pagesN L.c.Pages k) := by
  unfold m_chunk_Pages
  rw [opages_eq h]; rfl
theorem span_eq {L : T_layout_Layout} (h : LayOK L) {p n : Int} (hp : -9223372036854775808 ≤ p ∧ p ≤ 9223372036854775807) : m_chunk_span L p n = some (if spanB L.c.Pages p n = true then (p / 4, (p + n - 1) / 4, true) else (0, 0, false)) := by
  unfold m_chunk_span spanB
  simp only [Config_eq, Option.bind_some, cOf]
  have := h.pages
  by_cases a : n < 1
  · rw [decide_eq_true a, decide_eq_false (show ¬ 1 ≤ n by omega)]; rfl
  rw [decide_eq_false a, decide_eq_true (show 1 ≤ n by omega)]
  by_cases b : p < 0
  · rw [decide_eq_true b, decide_eq_false (show ¬ 0 ≤ p by omega)]; rfl
  rw [decide_eq_false b, decide_eq_true (show 0 ≤ p by omega)]
  by_cases c : p < L.c.Pages
  · rw [decide_eq_false (show ¬ p ≥ L.c.Pages by omega), decide_eq_true c, wrap_id (x := L.c.Pages - p) (by omega) (by omega)]
    by_cases d : n ≤ L.c.Pages - p
    · rw [decide_eq_false (show ¬ n > L.c.Pages - p by omega), decide_eq_true d, wrap_id (x := p + n) (by omega) (by omega), wrap_id (x := p + n - 1) (by omega) (by omega), cOf_eq (by omega), cOf_eq (by omega)]
      unfold chunkI
      rw [decide_eq_false b, decide_eq_false (show ¬ p + n - 1 < 0 by omega)]; rfl
    · rw [decide_eq_true (show n > L.c.Pages - p by omega), decide_eq_false d]; rfl
  · rw [decide_eq_true (show p ≥ L.c.Pages by omega), decide_eq_false c]; rfl

/-- Words that a layout's are among. -/
structure VOK (L : T_layout_Layout) (nw : Nat) (cur : List Int) : Prop where
  lay : LayOK L
  len : cur.length = nw
  all : L.at_11 ≤ (nw : Int)

theorem rd_getD (cur : List Int) (a : Int) : rd cur a = cur.getD a.toNat 0 := rfl
theorem tab_in {L : T_layout_Layout} {nw : Nat} {cur : List Int} (v : VOK L nw cur) {k : Int} (hk : thereB L.c.Pages k = true) : lTab L k = L.at_0 + k ∧ inR (L.at_0 + k) nw = true := by
  obtain ⟨k1, k2⟩ := there_of hk
  have := v.lay.big; have := v.lay.a11; have := v.lay.pages; have := v.all; have := v.lay.a0; have := v.lay.stripes; have := v.lay.a1; have := v.lay.a6; have := v.lay.a7; have h3 := v.lay.a8b; have h4 := v.lay.bin; have := v.lay.a9
  refine ⟨by unfold lTab; rw [if_pos ⟨k1, k2⟩], inR_int (by omega) (by omega)⟩
theorem VOK.tab {L : T_layout_Layout} {nw : Nat} {cur : List Int} (v : VOK L nw cur) : 0 ≤ L.at_0 ∧ L.at_0 + (L.c.Pages + 3) / 4 ≤ (cur.length : Int) := by
  have := v.lay.big; have := v.lay.a11; have := v.lay.pages; have := v.all; have := v.lay.a0; have := v.lay.stripes; have := v.lay.a1; have := v.lay.a6; have := v.lay.a7; have h3 := v.lay.a8b; have h4 := v.lay.bin; have := v.lay.a9
  have := v.len
  omega
theorem is_eq {L : T_layout_Layout} {nw : Nat} {cur : List Int} (v : VOK L nw cur) (k st : Int) : m_chunk_one_is nw cur ⟨L, k⟩ st = some (isB cur L.c.Pages L.at_0 k st) := by
  unfold m_chunk_one_is isB
  simp only [there_eq v.lay, Table_eq v.lay, Option.bind_some]
  cases hk : thereB L.c.Pages k with
  | false => rfl
  | true =>
    obtain ⟨h1, h2⟩ := tab_in v hk
    simp only [cond_true, h1, h2, Bool.true_and, rd_getD]
theorem turn_eq {L : T_layout_Layout} {nw : Nat} {cur : List Int} (v : VOK L nw cur) (k st : Int) : m_chunk_one_turn nw cur ⟨L, k⟩ st = some (turnB cur L.c.Pages L.at_0 k st, turnU cur L.c.Pages L.at_0 k st) := by
  unfold m_chunk_one_turn turnU turnB
  simp only [there_eq v.lay, Table_eq v.lay, is_eq v, Option.bind_some]
  cases hk : thereB L.c.Pages k with
  | false => rfl
  | true =>
    obtain ⟨h1, h2⟩ := tab_in v hk
    have e : isB cur L.c.Pages L.at_0 k 1 = (cur.getD (L.at_0 + k).toNat 0 == 1) := by unfold isB; rw [hk]; rfl
    rw [e]
    simp only [Bool.not_true, cond_false, h1, h2, cond_true, Bool.true_and]
    cases (cur.getD (L.at_0 + k).toNat 0 == 1) == (st == 1) <;> rfl
theorem VOK.turn {L : T_layout_Layout} {nw : Nat} {cur : List Int} (v : VOK L nw cur) (k st : Int) : VOK L nw (turnU cur L.c.Pages L.at_0 k st) := ⟨v.lay, by rw [turnU_len]; exact v.len, v.all⟩
theorem Map_eq {L : T_layout_Layout} {nw : Nat} {cur : List Int} (v : VOK L nw cur) (k : Int) : m_chunk_Map nw cur L k = some (turnB cur L.c.Pages L.at_0 k 1, turnU cur L.c.Pages L.at_0 k 1) := by
  unfold m_chunk_Map; rw [turn_eq v]; rfl
theorem Ensure_eq {L : T_layout_Layout} {nw : Nat} {cur : List Int} (v : VOK L nw cur) {p n : Int} (hp : -9223372036854775808 ≤ p ∧ p ≤ 9223372036854775807) : m_chunk_Ensure nw cur L p n = some (ensM cur L.c.Pages L.at_0 p n) := by
  unfold m_chunk_Ensure
  rw [span_eq v.lay hp, Option.bind_some]
  unfold ensM
  cases hs : spanB L.c.Pages p n with
  | false =>
    have hm : ensK L.c.Pages p n = 0 := by unfold ensK; rw [hs]; rfl
    rw [hm]
    exact loopO_end rfl
  | true =>
    obtain ⟨s1, s2, s3, s4⟩ := span_of hs
    have hpg := v.lay.pages
    rw [ensK_span hs, if_pos rfl]
    generalize hG : ensG L.c.Pages L.at_0 cur (p / 4) = G
    have hGs : ∀ n : Nat, G (n + 1) = (bif turnB (G n).2 L.c.Pages L.at_0 (p / 4 + n) 1 then (G n).1 + pagesN L.c.Pages (p / 4 + n) else (G n).1, turnU (G n).2 L.c.Pages L.at_0 (p / 4 + n) 1) := fun n => by rw [← hG]; rfl
    have hGv : ∀ n : Nat, VOK L nw (G n).2 := fun n => ⟨v.lay, by rw [← hG, ensG_len]; exact v.len, v.all⟩
    have hGle : ∀ n : Nat, 0 ≤ (G n).1 ∧ (G n).1 ≤ 4 * (n : Int) := fun n => by rw [← hG]; exact ensG_le _ _ _ _ n
    obtain ⟨r, h1, rfl⟩ := loopO_ind (step := fun s : Int × Int × List Int => sb_chunk_Ensure_L1 nw L ((p + n - 1) / 4) true s.1 s.2.1 s.2.2)
      (I := fun s => ∃ j : Nat, (j : Int) ≤ (p + n - 1) / 4 - p / 4 + 1 ∧ s = ((G j).1, p / 4 + j, (G j).2))
      (μ := fun s => ((p + n - 1) / 4 + 1 - s.2.1).toNat) (fun r => r = G ((p + n - 1) / 4 - p / 4 + 1).toNat) (by
        rintro _ ⟨j, hj, rfl⟩
        simp only [sb_chunk_Ensure_L1, cond_true]
        have hle := hGle j
        have hpn := pagesN_le L.c.Pages (p / 4 + j)
        by_cases e : p / 4 + (j : Int) ≤ (p + n - 1) / 4
        · rw [decide_eq_true e, cond_true, Map_eq (hGv j), Option.bind_some, Pages_eq v.lay, Option.bind_some, wrap_id (x := p / 4 + (j : Int) + 1) (by omega) (by omega), wrap_id (by omega) (by omega)]
          refine .inl ⟨((G (j + 1)).1, p / 4 + ((j + 1 : Nat) : Int), (G (j + 1)).2), ?_, ⟨j + 1, by omega, rfl⟩, by simp only; omega⟩
          have e1 : p / 4 + ((j + 1 : Nat) : Int) = p / 4 + j + 1 := by omega
          rw [e1, hGs]
          cases turnB (G j).2 L.c.Pages L.at_0 (p / 4 + j) 1 <;> rfl
        · have ej : j = ((p + n - 1) / 4 - p / 4 + 1).toNat := by omega
          rw [decide_eq_false e, cond_false, ← ej]
          exact .inr ⟨_, rfl, rfl⟩) (0, p / 4, cur) ⟨0, by omega, by rw [← hG]; simp [ensG]⟩
    exact h1
end Go.Rx
end

section
/- Contracts. -/
namespace Go.Rx
open Go.Proofs
set_option maxRecDepth 100000
set_option maxHeartbeats 4000000
/-! (assart/assartref02.Layout).Chunks -/
def tr_ref02_Layout_Chunks (m_ : T_assartref02_Layout → Option (Int)) (args : List V) (H : Heap) (K : V → Heap → Prop) : Prop :=
  aC args fun a0 r => aN r <| aAgg a0 fun c0 => d_assartref02_Layout c0 fun l2 => aN H <| So (m_ l2) fun x => K (vi (x)) []
def sp_ref02_Layout_Chunks (m_ : T_assartref02_Layout → Option (Int)) : Spec := ⟨tr_ref02_Layout_Chunks m_, (true : Bool)⟩

/-! (assart/assartref02.Layout).table -/
def tr_ref02_Layout_table (m_ : T_assartref02_Layout → Option (Int)) (args : List V) (H : Heap) (K : V → Heap → Prop) : Prop :=
  aC args fun a0 r => aN r <| aAgg a0 fun c0 => d_assartref02_Layout c0 fun l2 => aN H <| So (m_ l2) fun x => K (vi (x)) []
def sp_ref02_Layout_table (m_ : T_assartref02_Layout → Option (Int)) : Spec := ⟨tr_ref02_Layout_table m_, (true : Bool)⟩

/-! (assart/assartref02.Layout).heads -/
def tr_ref02_Layout_heads (m_ : T_assartref02_Layout → Option (Int)) (args : List V) (H : Heap) (K : V → Heap → Prop) : Prop :=
  aC args fun a0 r => aN r <| aAgg a0 fun c0 => d_assartref02_Layout c0 fun l2 => aN H <| So (m_ l2) fun x => K (vi (x)) []
def sp_ref02_Layout_heads (m_ : T_assartref02_Layout → Option (Int)) : Spec := ⟨tr_ref02_Layout_heads m_, (true : Bool)⟩

/-! (assart/assartref02.Layout).caches -/
def tr_ref02_Layout_caches (m_ : T_assartref02_Layout → Option (Int)) (args : List V) (H : Heap) (K : V → Heap → Prop) : Prop :=
  aC args fun a0 r => aN r <| aAgg a0 fun c0 => d_assartref02_Layout c0 fun l2 => aN H <| So (m_ l2) fun x => K (vi (x)) []
def sp_ref02_Layout_caches (m_ : T_assartref02_Layout → Option (Int)) : Spec := ⟨tr_ref02_Layout_caches m_, (true : Bool)⟩

/-! (assart/assartref02.Layout).bins -/
def tr_ref02_Layout_bins (m_ : T_assartref02_Layout → Option (Int)) (args : List V) (H : Heap) (K : V → Heap → Prop) : Prop :=
  aC args fun a0 r => aN r <| aAgg a0 fun c0 => d_assartref02_Layout c0 fun l2 => aN H <| So (m_ l2) fun x => K (vi (x)) []
def sp_ref02_Layout_bins (m_ : T_assartref02_Layout → Option (Int)) : Spec := ⟨tr_ref02_Layout_bins m_, (true : Bool)⟩

/-! (assart/assartref02.Layout).live -/
def tr_ref02_Layout_live (m_ : T_assartref02_Layout → Option (Int)) (args : List V) (H : Heap) (K : V → Heap → Prop) : Prop :=
  aC args fun a0 r => aN r <| aAgg a0 fun c0 => d_assartref02_Layout c0 fun l2 => aN H <| So (m_ l2) fun x => K (vi (x)) []
def sp_ref02_Layout_live (m_ : T_assartref02_Layout → Option (Int)) : Spec := ⟨tr_ref02_Layout_live m_, (true : Bool)⟩

/-! (assart/assartref02.Layout).User -/
def tr_ref02_Layout_User (m_ : T_assartref02_Layout → Option (Int)) (args : List V) (H : Heap) (K : V → Heap → Prop) : Prop :=
  aC args fun a0 r => aN r <| aAgg a0 fun c0 => d_assartref02_Layout c0 fun l2 => aN H <| So (m_ l2) fun x => K (vi (x)) []
def sp_ref02_Layout_User (m_ : T_assartref02_Layout → Option (Int)) : Spec := ⟨tr_ref02_Layout_User m_, (true : Bool)⟩

/-! (assart/assartref02.Layout).Words -/
def tr_ref02_Layout_Words (m_ : T_assartref02_Layout → Option (Int)) (args : List V) (H : Heap) (K : V → Heap → Prop) : Prop :=
  aC args fun a0 r => aN r <| aAgg a0 fun c0 => d_assartref02_Layout c0 fun l2 => aN H <| So (m_ l2) fun x => K (vi (x)) []
def sp_ref02_Layout_Words (m_ : T_assartref02_Layout → Option (Int)) : Spec := ⟨tr_ref02_Layout_Words m_, (true : Bool)⟩

/-! assart/assartref02.at -/
/-! (assart/assartref02.Layout).Table -/
/-! (assart/assartref02.Layout).page -/
/-! (assart/assartref02.Layout).Kind -/
/-! (assart/assartref02.Layout).Count -/
/-! (assart/assartref02.Layout).Bits -/
/-! (assart/assartref02.Layout).Next -/
/-! (assart/assartref02.Layout).Prev -/
/-! assart/assartref02.Slots -/
/-! (assart/assartref02.Layout).Head -/
/-! assart/assartlaw02.within -/
def tr_law02_within (m_ : Int → Int → Int → Option (Int)) (args : List V) (H : Heap) (K : V → Heap → Prop) : Prop :=
  aC args fun a0 r => aC r fun a1 r => aC r fun a2 r => aN r <| aInt a0 fun n => aInt a1 fun low => aInt a2 fun high => aN H <| So (m_ n low high) fun x => K (vi (x)) []
def sp_law02_within (m_ : Int → Int → Int → Option (Int)) : Spec := ⟨tr_law02_within m_, (true : Bool)⟩

/-! assart/assartlaw02.Some -/
def tr_law02_Some (m_ : T_api_Config → Option (T_api_Config)) (args : List V) (H : Heap) (K : V → Heap → Prop) : Prop :=
  aC args fun a0 r => aN r <| aAgg a0 fun c0 => d_api_Config c0 fun c => aN H <| So (m_ c) fun x => K (.agg (e_api_Config (x))) []
def sp_law02_Some (m_ : T_api_Config → Option (T_api_Config)) : Spec := ⟨tr_law02_Some m_, (true : Bool)⟩

/-! (assart/assartlaw01.Ints).Same -/
def tr_law01_Ints_Same (m_ : (List Int) → (List Int) → Option (Bool)) (args : List V) (H : Heap) (K : V → Heap → Prop) : Prop :=
  aC args fun a0 r => aC r fun a1 r => aN r <| aRow 0 a0 <| aRow 1 a1 <| aC H fun b0 r => aC r fun b1 r => aN r <| bRow 0 true b0 fun (a : List Int) => bRow 0 true b1 fun (b : List Int) => So (m_ a b) fun x => K (vb (x)) [.row 0 a true, .row 0 b true]
def sp_law01_Ints_Same (m_ : (List Int) → (List Int) → Option (Bool)) : Spec := ⟨tr_law01_Ints_Same m_, (true : Bool)⟩

noncomputable def cfg_ref02_Layout_Chunks  : Cfg := { cfgB with
  sigs := sigN }

noncomputable def cfg_ref02_Layout_table  : Cfg := { cfgB with
  sigs := sigN }

noncomputable def cfg_ref02_Layout_heads (m_ref02_Layout_table : T_assartref02_Layout → Option (Int)) (m_ref02_Layout_Chunks : T_assartref02_Layout → Option (Int)) : Cfg := { cfgB with
  sigs := (sigC 156 (sp_ref02_Layout_table m_ref02_Layout_table) (sigC 143 (sp_ref02_Layout_Chunks m_ref02_Layout_Chunks) sigN)),
  plan := fun r => match r with | 1 => some ([0, 2, 5, 6, 7, 8, 1, 3, 4, 9, 10], 0) | _ => none }

noncomputable def cfg_ref02_Layout_caches (m_ref02_Layout_heads : T_assartref02_Layout → Option (Int)) : Cfg := { cfgB with
  sigs := (sigC 139 (sp_ref02_Layout_heads m_ref02_Layout_heads) sigN) }

noncomputable def cfg_ref02_Layout_bins (m_ref02_Layout_caches : T_assartref02_Layout → Option (Int)) : Cfg := { cfgB with
  sigs := (sigC 163 (sp_ref02_Layout_caches m_ref02_Layout_caches) sigN),
  plan := fun r => match r with | 1 => some ([0, 2, 3, 4, 5, 6, 7, 8, 9, 10, 1, 11, 12], 0) | _ => none }

noncomputable def cfg_ref02_Layout_live (m_ref02_Layout_bins : T_assartref02_Layout → Option (Int)) : Cfg := { cfgB with
  sigs := (sigC 161 (sp_ref02_Layout_bins m_ref02_Layout_bins) sigN),
  plan := fun r => match r with | 1 => some ([0, 2, 3, 4, 5, 6, 1, 7, 8], 0) | _ => none }

noncomputable def cfg_ref02_Layout_User (m_ref02_Layout_live : T_assartref02_Layout → Option (Int)) : Cfg := { cfgB with
  sigs := (sigC 151 (sp_ref02_Layout_live m_ref02_Layout_live) sigN),
  plan := fun r => match r with | 1 => some ([0, 2, 3, 4, 5, 1, 6, 7, 8, 9, 10], 0) | _ => none }

noncomputable def cfg_ref02_Layout_Words (m_ref02_Layout_User : T_assartref02_Layout → Option (Int)) : Cfg := { cfgB with
  sigs := (sigC 120 (sp_ref02_Layout_User m_ref02_Layout_User) sigN),
  plan := fun r => match r with | 1 => some ([0, 2, 3, 4, 5, 1, 6, 7], 0) | _ => none }

noncomputable def cfg_law02_within  : Cfg := { cfgB with
  sigs := sigN }

noncomputable def cfg_law02_Some (m_law02_within : Int → Int → Int → Option (Int)) : Cfg := { cfgB with
  sigs := (sigC 150 (sp_law02_within m_law02_within) sigN),
  plan := fun r => match r with | 1 => some ([0, 1, 3, 4, 6, 7, 9, 10, 12, 13, 15, 16, 18, 19, 21, 22, 24, 25, 27, 28, 30, 31, 2, 5, 8, 11, 14, 17, 20, 23, 26, 29, 32, 33, 34], 3) | _ => none,
  flag := fun d => Nat.beq d 2 }

noncomputable def cfg_law01_Ints_Same  : Cfg := { cfgB with
  sigs := sigN,
  keep := fun r => match r with | 4 => some [(0, some 0), (1, some 0), (5, none)] | _ => none,
  plan := fun r => match r with | 6 => some (List.range 9, 0) | _ => none }

theorem nf_ref02_Layout_Chunks (l2 : T_assartref02_Layout) (K : V → Heap → Prop) : (exF cfg_ref02_Layout_Chunks Try.f143 [.agg (e_assartref02_Layout l2)] [] K) = (
    K (vi (IntKind.wrap IntKind.i64 (Int.tdiv (IntKind.wrap IntKind.i64 (T_api_Config.Pages (T_assartref02_Layout.C l2) + 3)) 4))) []) := by
  kernel_rfl

theorem nf_ref02_Layout_table (l2 : T_assartref02_Layout) (K : V → Heap → Prop) : (exF cfg_ref02_Layout_table Try.f156 [.agg (e_assartref02_Layout l2)] [] K) = (
    K (vi (IntKind.wrap IntKind.i64 (3 + T_api_Config.Stripes (T_assartref02_Layout.C l2)))) []) := by
  kernel_rfl

theorem nf_ref02_Layout_heads (m_ref02_Layout_table : T_assartref02_Layout → Option (Int)) (m_ref02_Layout_Chunks : T_assartref02_Layout → Option (Int)) (l2 : T_assartref02_Layout) (K : V → Heap → Prop) : (exF (cfg_ref02_Layout_heads m_ref02_Layout_table m_ref02_Layout_Chunks) Try.f139 [.agg (e_assartref02_Layout l2)] [] K) = (
    So (m_ref02_Layout_table l2) (fun (y0 : Int) => (So (m_ref02_Layout_Chunks l2) (fun (y1 : Int) => (K (vi (IntKind.wrap IntKind.i64 (IntKind.wrap IntKind.i64 (y0 + y1) + IntKind.wrap IntKind.i64 (5 * T_api_Config.Pages (T_assartref02_Layout.C l2))))) []))))) := by
  kernel_rfl

theorem nf_ref02_Layout_caches (m_ref02_Layout_heads : T_assartref02_Layout → Option (Int)) (l2 : T_assartref02_Layout) (K : V → Heap → Prop) : (exF (cfg_ref02_Layout_caches m_ref02_Layout_heads) Try.f163 [.agg (e_assartref02_Layout l2)] [] K) = (
    So (m_ref02_Layout_heads l2) (fun (y0 : Int) => (K (vi (IntKind.wrap IntKind.i64 (y0 + 62))) []))) := by
  kernel_rfl

theorem nf_ref02_Layout_bins (m_ref02_Layout_caches : T_assartref02_Layout → Option (Int)) (l2 : T_assartref02_Layout) (K : V → Heap → Prop) : (exF (cfg_ref02_Layout_bins m_ref02_Layout_caches) Try.f161 [.agg (e_assartref02_Layout l2)] [] K) = (
    So (m_ref02_Layout_caches l2) (fun (y0 : Int) => (K (vi (IntKind.wrap IntKind.i64 (y0 + IntKind.wrap IntKind.i64 (IntKind.wrap IntKind.i64 (5 * T_api_Config.CPUs (T_assartref02_Layout.C l2)) * IntKind.wrap IntKind.i64 (T_api_Config.Cache (T_assartref02_Layout.C l2) + 1))))) []))) := by
  kernel_rfl

theorem nf_ref02_Layout_live (m_ref02_Layout_bins : T_assartref02_Layout → Option (Int)) (l2 : T_assartref02_Layout) (K : V → Heap → Prop) : (exF (cfg_ref02_Layout_live m_ref02_Layout_bins) Try.f151 [.agg (e_assartref02_Layout l2)] [] K) = (
    So (m_ref02_Layout_bins l2) (fun (y0 : Int) => (K (vi (IntKind.wrap IntKind.i64 (y0 + IntKind.wrap IntKind.i64 (5 * IntKind.wrap IntKind.i64 (T_api_Config.Bin (T_assartref02_Layout.C l2) + 1))))) []))) := by
  kernel_rfl

theorem nf_ref02_Layout_User (m_ref02_Layout_live : T_assartref02_Layout → Option (Int)) (l2 : T_assartref02_Layout) (K : V → Heap → Prop) : (exF (cfg_ref02_Layout_User m_ref02_Layout_live) Try.f120 [.agg (e_assartref02_Layout l2)] [] K) = (
    So (m_ref02_Layout_live l2) (fun (y0 : Int) => (K (vi (IntKind.wrap IntKind.i64 (IntKind.wrap IntKind.i64 (Int.tdiv (IntKind.wrap IntKind.i64 (IntKind.wrap IntKind.i64 (y0 + IntKind.wrap IntKind.i64 (32 * T_api_Config.Pages (T_assartref02_Layout.C l2))) + 127)) 128) * 128))) []))) := by
  kernel_rfl

theorem nf_ref02_Layout_Words (m_ref02_Layout_User : T_assartref02_Layout → Option (Int)) (l2 : T_assartref02_Layout) (K : V → Heap → Prop) : (exF (cfg_ref02_Layout_Words m_ref02_Layout_User) Try.f72 [.agg (e_assartref02_Layout l2)] [] K) = (
    So (m_ref02_Layout_User l2) (fun (y0 : Int) => (K (vi (IntKind.wrap IntKind.i64 (y0 + IntKind.wrap IntKind.i64 (32 * T_api_Config.Pages (T_assartref02_Layout.C l2))))) []))) := by
  kernel_rfl

theorem nf_law02_within (n : Int) (low : Int) (high : Int) (K : V → Heap → Prop) : (exF cfg_law02_within Try.f150 [vi n, vi low, vi high] [] K) = (
    Req (!IntKind.wrap IntKind.u64 (IntKind.wrap IntKind.i64 (IntKind.wrap IntKind.i64 (high - low) + 1)) == 0) (K (vi (IntKind.wrap IntKind.i64 (low + IntKind.wrap IntKind.i64 (Int.tmod (IntKind.wrap IntKind.u64 n) (IntKind.wrap IntKind.u64 (IntKind.wrap IntKind.i64 (IntKind.wrap IntKind.i64 (high - low) + 1))))))) [])) := by
  kernel_rfl

theorem nf_law02_Some (m_law02_within : Int → Int → Int → Option (Int)) (c : T_api_Config) (K : V → Heap → Prop) : (exF (cfg_law02_Some m_law02_within) Try.f119 [.agg (e_api_Config c)] [] K) = (
    So (m_law02_within (T_api_Config.Workers c) 1 64) (fun (y0 : Int) => (So (m_law02_within (T_api_Config.CPUs c) 1 8) (fun (y1 : Int) => (So (m_law02_within (T_api_Config.Pages c) 1 256) (fun (y2 : Int) => (So (m_law02_within (T_api_Config.Stripes c) 1 64) (fun (y3 : Int) => (So (m_law02_within (T_api_Config.Tries c) 0 16) (fun (y4 : Int) => (So (m_law02_within (T_api_Config.Wait c) 0 64) (fun (y5 : Int) => (So (m_law02_within (T_api_Config.Clock c) 1 1099511627776) (fun (y6 : Int) => (So (m_law02_within (T_api_Config.Private c) 1 8) (fun (y7 : Int) => (So (m_law02_within (T_api_Config.Cache c) 0 8) (fun (y8 : Int) => (So (m_law02_within (T_api_Config.Bin c) 0 16) (fun (y9 : Int) => (So (m_law02_within (T_api_Config.Batch c) 1 8) (fun (y10 : Int) => (K (.agg [vi (y0), vi (y1), vi (y2), vi (y3), vi (y4), vi (y5), vi (y6), vi (y7), vi (y8), vi (y9), vi (y10)]) []))))))))))))))))))))))) := by
  kernel_rfl

theorem nf_law01_Ints_Same_L1 (a : List Int) (b : List Int) (iv : Int) (K : V → Heap → Prop) (J1 : Env → Heap → Prop) : (ex cfg_law01_Ints_Same (⟨26, 2⟩ : Cx) (at_ (bodyOf Try.f20) [1, 1, 0, 1, 0, 0]) (mkEnv [(0, .row 0), (1, .row 1), (5, vi (iv))]) [.row 0 (a : List (Int)) Bool.true, .row 0 (b : List (Int)) Bool.true] (roundK cfg_law01_Ints_Same (⟨26, 2⟩ : Cx) (at_ (bodyOf Try.f20) [1, 1, 0, 1, 0, 0]) (contK cfg_law01_Ints_Same (⟨26, 2⟩ : Cx) (bodyOf Try.f20) [1, 1, 0, 1, 0] (retK cfg_law01_Ints_Same Try.f20 2 K)) J1)) = (
    br (Decidable.decide (iv < (↑(List.length a) : Int))) (Req (inR iv (List.length a)) (Req (inR (offs iv 0) (List.length a)) (Req (inR iv (List.length b)) (Req (inR (offs iv 0) (List.length b)) (br (List.getD a (Int.toNat (offs iv 0)) 0 != List.getD b (Int.toNat (offs iv 0)) 0) (K (vb (Bool.false)) [.row 0 (a : List (Int)) Bool.true, .row 0 (b : List (Int)) Bool.true]) (J1 (mkEnv [(0, .row 0), (1, .row 1), (5, vi (IntKind.wrap IntKind.i64 (iv + 1)))]) [.row 0 (a : List (Int)) Bool.true, .row 0 (b : List (Int)) Bool.true])))))) (K (vb (Bool.true)) [.row 0 (a : List (Int)) Bool.true, .row 0 (b : List (Int)) Bool.true])) := by
  kernel_rfl

theorem nf_law01_Ints_Same (a : List Int) (b : List Int) (K : V → Heap → Prop) : (exF cfg_law01_Ints_Same Try.f20 [.row 0, .row 1] [.row 0 a true, .row 0 b true] K) = (
    br ((↑(List.length a) : Int) != (↑(List.length b) : Int)) (K (vb (Bool.false)) [.row 0 (a : List (Int)) Bool.true, .row 0 (b : List (Int)) Bool.true]) (Loop cfg_law01_Ints_Same (⟨26, 2⟩ : Cx) (at_ (bodyOf Try.f20) [1, 1, 0, 1, 0, 0]) (mkEnv [(0, .row 0), (1, .row 1), (5, vi (0))]) [.row 0 (a : List (Int)) Bool.true, .row 0 (b : List (Int)) Bool.true] (contK cfg_law01_Ints_Same (⟨26, 2⟩ : Cx) (bodyOf Try.f20) [1, 1, 0, 1, 0] (retK cfg_law01_Ints_Same Try.f20 2 K)))) := by
  kernel_rfl

noncomputable def m_ref02_Layout_Chunks (l2 : T_assartref02_Layout) : Option (Int) :=
  some ((IntKind.wrap IntKind.i64 (Int.tdiv (IntKind.wrap IntKind.i64 (T_api_Config.Pages (T_assartref02_Layout.C l2) + 3)) 4)))

noncomputable def m_ref02_Layout_table (l2 : T_assartref02_Layout) : Option (Int) :=
  some ((IntKind.wrap IntKind.i64 (3 + T_api_Config.Stripes (T_assartref02_Layout.C l2))))

noncomputable def m_ref02_Layout_heads (l2 : T_assartref02_Layout) : Option (Int) :=
  ((m_ref02_Layout_table l2).bind fun y0 => ((m_ref02_Layout_Chunks l2).bind fun y1 => some ((IntKind.wrap IntKind.i64 (IntKind.wrap IntKind.i64 (y0 + y1) + IntKind.wrap IntKind.i64 (5 * T_api_Config.Pages (T_assartref02_Layout.C l2)))))))

noncomputable def m_ref02_Layout_caches (l2 : T_assartref02_Layout) : Option (Int) :=
  ((m_ref02_Layout_heads l2).bind fun y0 => some ((IntKind.wrap IntKind.i64 (y0 + 62))))

noncomputable def m_ref02_Layout_bins (l2 : T_assartref02_Layout) : Option (Int) :=
  ((m_ref02_Layout_caches l2).bind fun y0 => some ((IntKind.wrap IntKind.i64 (y0 + IntKind.wrap IntKind.i64 (IntKind.wrap IntKind.i64 (5 * T_api_Config.CPUs (T_assartref02_Layout.C l2)) * IntKind.wrap IntKind.i64 (T_api_Config.Cache (T_assartref02_Layout.C l2) + 1))))))

noncomputable def m_ref02_Layout_live (l2 : T_assartref02_Layout) : Option (Int) :=
  ((m_ref02_Layout_bins l2).bind fun y0 => some ((IntKind.wrap IntKind.i64 (y0 + IntKind.wrap IntKind.i64 (5 * IntKind.wrap IntKind.i64 (T_api_Config.Bin (T_assartref02_Layout.C l2) + 1))))))

noncomputable def m_ref02_Layout_User (l2 : T_assartref02_Layout) : Option (Int) :=
  ((m_ref02_Layout_live l2).bind fun y0 => some ((IntKind.wrap IntKind.i64 (IntKind.wrap IntKind.i64 (Int.tdiv (IntKind.wrap IntKind.i64 (IntKind.wrap IntKind.i64 (y0 + IntKind.wrap IntKind.i64 (32 * T_api_Config.Pages (T_assartref02_Layout.C l2))) + 127)) 128) * 128))))

noncomputable def m_ref02_Layout_Words (l2 : T_assartref02_Layout) : Option (Int) :=
  ((m_ref02_Layout_User l2).bind fun y0 => some ((IntKind.wrap IntKind.i64 (y0 + IntKind.wrap IntKind.i64 (32 * T_api_Config.Pages (T_assartref02_Layout.C l2))))))

noncomputable def m_law02_within (n : Int) (low : Int) (high : Int) : Option (Int) :=
  (bif (!IntKind.wrap IntKind.u64 (IntKind.wrap IntKind.i64 (IntKind.wrap IntKind.i64 (high - low) + 1)) == 0) then some ((IntKind.wrap IntKind.i64 (low + IntKind.wrap IntKind.i64 (Int.tmod (IntKind.wrap IntKind.u64 n) (IntKind.wrap IntKind.u64 (IntKind.wrap IntKind.i64 (IntKind.wrap IntKind.i64 (high - low) + 1))))))) else none)

noncomputable def m_law02_Some (c : T_api_Config) : Option (T_api_Config) :=
  ((m_law02_within (T_api_Config.Workers c) 1 64).bind fun y0 => ((m_law02_within (T_api_Config.CPUs c) 1 8).bind fun y1 => ((m_law02_within (T_api_Config.Pages c) 1 256).bind fun y2 => ((m_law02_within (T_api_Config.Stripes c) 1 64).bind fun y3 => ((m_law02_within (T_api_Config.Tries c) 0 16).bind fun y4 => ((m_law02_within (T_api_Config.Wait c) 0 64).bind fun y5 => ((m_law02_within (T_api_Config.Clock c) 1 1099511627776).bind fun y6 => ((m_law02_within (T_api_Config.Private c) 1 8).bind fun y7 => ((m_law02_within (T_api_Config.Cache c) 0 8).bind fun y8 => ((m_law02_within (T_api_Config.Bin c) 0 16).bind fun y9 => ((m_law02_within (T_api_Config.Batch c) 1 8).bind fun y10 => some (((T_api_Config.mk (y0) (y1) (y2) (y3) (y4) (y5) (y6) (y7) (y8) (y9) (y10)))))))))))))))

noncomputable def sb_law01_Ints_Same_L1 (a : List Int) (b : List Int) (iv : Int) : Option ((Int) ⊕ (Bool)) :=
  (bif (Decidable.decide (iv < (↑(List.length a) : Int))) then (bif (inR iv (List.length a)) then (bif (inR (offs iv 0) (List.length a)) then (bif (inR iv (List.length b)) then (bif (inR (offs iv 0) (List.length b)) then (bif (List.getD a (Int.toNat (offs iv 0)) 0 != List.getD b (Int.toNat (offs iv 0)) 0) then some (.inr ((Bool.false))) else some (.inl (IntKind.wrap IntKind.i64 (iv + 1)))) else none) else none) else none) else none) else some (.inr ((Bool.true))))

noncomputable def lp_law01_Ints_Same_L1 (a : List Int) (b : List Int) (s : Int) : Option (Bool) :=
  loopO (fun s => sb_law01_Ints_Same_L1 a b s) s

noncomputable def m_law01_Ints_Same (a : List Int) (b : List Int) : Option (Bool) :=
  (bif ((↑(List.length a) : Int) != (↑(List.length b) : Int)) then some ((Bool.false)) else (lp_law01_Ints_Same_L1 a b (0)))

attribute [local irreducible] Loop ex exF contK roundK retK at_ bodyOf mkEnv
theorem ok_ref02_Layout_Chunks : SpecOK Try.prog elTT 143 (sp_ref02_Layout_Chunks m_ref02_Layout_Chunks) := by
  refine spec_of_exF (cfg := cfg_ref02_Layout_Chunks) (cfg_ok rfl rfl rfl) sig_nil (fn := Try.f143) (by kernel_rfl) (by kernel_rfl) (by kernel_rfl) ?_
  intro args H K h
  change tr_ref02_Layout_Chunks m_ref02_Layout_Chunks args H K at h
  unfold tr_ref02_Layout_Chunks at h
  replace h := aC_el h
  obtain ⟨a0, _, rfl, h⟩ := h
  replace h := aN_el h
  obtain ⟨rfl, h⟩ := h
  replace h := aAgg_el h
  obtain ⟨c0, rfl, h⟩ := h
  replace h := d_assartref02_Layout_el h
  obtain ⟨l2, rfl, h⟩ := h
  replace h := aN_el h
  obtain ⟨rfl, h⟩ := h
  refine Eq.mpr (nf_ref02_Layout_Chunks l2 K) ?_
  unfold m_ref02_Layout_Chunks at h
  revert h
  exact fun h => h

theorem ok_ref02_Layout_table : SpecOK Try.prog elTT 156 (sp_ref02_Layout_table m_ref02_Layout_table) := by
  refine spec_of_exF (cfg := cfg_ref02_Layout_table) (cfg_ok rfl rfl rfl) sig_nil (fn := Try.f156) (by kernel_rfl) (by kernel_rfl) (by kernel_rfl) ?_
  intro args H K h
  change tr_ref02_Layout_table m_ref02_Layout_table args H K at h
  unfold tr_ref02_Layout_table at h
  replace h := aC_el h
  obtain ⟨a0, _, rfl, h⟩ := h
  replace h := aN_el h
  obtain ⟨rfl, h⟩ := h
  replace h := aAgg_el h
  obtain ⟨c0, rfl, h⟩ := h
  replace h := d_assartref02_Layout_el h
  obtain ⟨l2, rfl, h⟩ := h
  replace h := aN_el h
  obtain ⟨rfl, h⟩ := h
  refine Eq.mpr (nf_ref02_Layout_table l2 K) ?_
  unfold m_ref02_Layout_table at h
  revert h
  exact fun h => h

theorem ok_ref02_Layout_heads : SpecOK Try.prog elTT 139 (sp_ref02_Layout_heads m_ref02_Layout_heads) := by
  refine spec_of_exF (cfg := (cfg_ref02_Layout_heads m_ref02_Layout_table m_ref02_Layout_Chunks)) (cfg_ok rfl rfl rfl) (sig_cons ok_ref02_Layout_table (sig_cons ok_ref02_Layout_Chunks sig_nil)) (fn := Try.f139) (by kernel_rfl) (by kernel_rfl) (by kernel_rfl) ?_
  intro args H K h
  change tr_ref02_Layout_heads m_ref02_Layout_heads args H K at h
  unfold tr_ref02_Layout_heads at h
  replace h := aC_el h
  obtain ⟨a0, _, rfl, h⟩ := h
  replace h := aN_el h
  obtain ⟨rfl, h⟩ := h
  replace h := aAgg_el h
  obtain ⟨c0, rfl, h⟩ := h
  replace h := d_assartref02_Layout_el h
  obtain ⟨l2, rfl, h⟩ := h
  replace h := aN_el h
  obtain ⟨rfl, h⟩ := h
  refine Eq.mpr (nf_ref02_Layout_heads m_ref02_Layout_table m_ref02_Layout_Chunks l2 K) ?_
  unfold m_ref02_Layout_heads at h
  revert h
  exact bind_So fun y0 => bind_So fun y1 => fun h => h

theorem ok_ref02_Layout_caches : SpecOK Try.prog elTT 163 (sp_ref02_Layout_caches m_ref02_Layout_caches) := by
  refine spec_of_exF (cfg := (cfg_ref02_Layout_caches m_ref02_Layout_heads)) (cfg_ok rfl rfl rfl) (sig_cons ok_ref02_Layout_heads sig_nil) (fn := Try.f163) (by kernel_rfl) (by kernel_rfl) (by kernel_rfl) ?_
  intro args H K h
  change tr_ref02_Layout_caches m_ref02_Layout_caches args H K at h
  unfold tr_ref02_Layout_caches at h
  replace h := aC_el h
  obtain ⟨a0, _, rfl, h⟩ := h
  replace h := aN_el h
  obtain ⟨rfl, h⟩ := h
  replace h := aAgg_el h
  obtain ⟨c0, rfl, h⟩ := h
  replace h := d_assartref02_Layout_el h
  obtain ⟨l2, rfl, h⟩ := h
  replace h := aN_el h
  obtain ⟨rfl, h⟩ := h
  refine Eq.mpr (nf_ref02_Layout_caches m_ref02_Layout_heads l2 K) ?_
  unfold m_ref02_Layout_caches at h
  revert h
  exact bind_So fun y0 => fun h => h

theorem ok_ref02_Layout_bins : SpecOK Try.prog elTT 161 (sp_ref02_Layout_bins m_ref02_Layout_bins) := by
  refine spec_of_exF (cfg := (cfg_ref02_Layout_bins m_ref02_Layout_caches)) (cfg_ok rfl rfl rfl) (sig_cons ok_ref02_Layout_caches sig_nil) (fn := Try.f161) (by kernel_rfl) (by kernel_rfl) (by kernel_rfl) ?_
  intro args H K h
  change tr_ref02_Layout_bins m_ref02_Layout_bins args H K at h
  unfold tr_ref02_Layout_bins at h
  replace h := aC_el h
  obtain ⟨a0, _, rfl, h⟩ := h
  replace h := aN_el h
  obtain ⟨rfl, h⟩ := h
  replace h := aAgg_el h
  obtain ⟨c0, rfl, h⟩ := h
  replace h := d_assartref02_Layout_el h
  obtain ⟨l2, rfl, h⟩ := h
  replace h := aN_el h
  obtain ⟨rfl, h⟩ := h
  refine Eq.mpr (nf_ref02_Layout_bins m_ref02_Layout_caches l2 K) ?_
  unfold m_ref02_Layout_bins at h
  revert h
  exact bind_So fun y0 => fun h => h

theorem ok_ref02_Layout_live : SpecOK Try.prog elTT 151 (sp_ref02_Layout_live m_ref02_Layout_live) := by
  refine spec_of_exF (cfg := (cfg_ref02_Layout_live m_ref02_Layout_bins)) (cfg_ok rfl rfl rfl) (sig_cons ok_ref02_Layout_bins sig_nil) (fn := Try.f151) (by kernel_rfl) (by kernel_rfl) (by kernel_rfl) ?_
  intro args H K h
  change tr_ref02_Layout_live m_ref02_Layout_live args H K at h
  unfold tr_ref02_Layout_live at h
  replace h := aC_el h
  obtain ⟨a0, _, rfl, h⟩ := h
  replace h := aN_el h
  obtain ⟨rfl, h⟩ := h
  replace h := aAgg_el h
  obtain ⟨c0, rfl, h⟩ := h
  replace h := d_assartref02_Layout_el h
  obtain ⟨l2, rfl, h⟩ := h
  replace h := aN_el h
  obtain ⟨rfl, h⟩ := h
  refine Eq.mpr (nf_ref02_Layout_live m_ref02_Layout_bins l2 K) ?_
  unfold m_ref02_Layout_live at h
  revert h
  exact bind_So fun y0 => fun h => h

theorem ok_ref02_Layout_User : SpecOK Try.prog elTT 120 (sp_ref02_Layout_User m_ref02_Layout_User) := by
  refine spec_of_exF (cfg := (cfg_ref02_Layout_User m_ref02_Layout_live)) (cfg_ok rfl rfl rfl) (sig_cons ok_ref02_Layout_live sig_nil) (fn := Try.f120) (by kernel_rfl) (by kernel_rfl) (by kernel_rfl) ?_
  intro args H K h
  change tr_ref02_Layout_User m_ref02_Layout_User args H K at h
  unfold tr_ref02_Layout_User at h
  replace h := aC_el h
  obtain ⟨a0, _, rfl, h⟩ := h
  replace h := aN_el h
  obtain ⟨rfl, h⟩ := h
  replace h := aAgg_el h
  obtain ⟨c0, rfl, h⟩ := h
  replace h := d_assartref02_Layout_el h
  obtain ⟨l2, rfl, h⟩ := h
  replace h := aN_el h
  obtain ⟨rfl, h⟩ := h
  refine Eq.mpr (nf_ref02_Layout_User m_ref02_Layout_live l2 K) ?_
  unfold m_ref02_Layout_User at h
  revert h
  exact bind_So fun y0 => fun h => h

theorem ok_ref02_Layout_Words : SpecOK Try.prog elTT 72 (sp_ref02_Layout_Words m_ref02_Layout_Words) := by
  refine spec_of_exF (cfg := (cfg_ref02_Layout_Words m_ref02_Layout_User)) (cfg_ok rfl rfl rfl) (sig_cons ok_ref02_Layout_User sig_nil) (fn := Try.f72) (by kernel_rfl) (by kernel_rfl) (by kernel_rfl) ?_
  intro args H K h
  change tr_ref02_Layout_Words m_ref02_Layout_Words args H K at h
  unfold tr_ref02_Layout_Words at h
  replace h := aC_el h
  obtain ⟨a0, _, rfl, h⟩ := h
  replace h := aN_el h
  obtain ⟨rfl, h⟩ := h
  replace h := aAgg_el h
  obtain ⟨c0, rfl, h⟩ := h
  replace h := d_assartref02_Layout_el h
  obtain ⟨l2, rfl, h⟩ := h
  replace h := aN_el h
  obtain ⟨rfl, h⟩ := h
  refine Eq.mpr (nf_ref02_Layout_Words m_ref02_Layout_User l2 K) ?_
  unfold m_ref02_Layout_Words at h
  revert h
  exact bind_So fun y0 => fun h => h

theorem ok_law02_within : SpecOK Try.prog elTT 150 (sp_law02_within m_law02_within) := by
  refine spec_of_exF (cfg := cfg_law02_within) (cfg_ok rfl rfl rfl) sig_nil (fn := Try.f150) (by kernel_rfl) (by kernel_rfl) (by kernel_rfl) ?_
  intro args H K h
  change tr_law02_within m_law02_within args H K at h
  unfold tr_law02_within at h
  replace h := aC_el h
  obtain ⟨a0, _, rfl, h⟩ := h
  replace h := aC_el h
  obtain ⟨a1, _, rfl, h⟩ := h
  replace h := aC_el h
  obtain ⟨a2, _, rfl, h⟩ := h
  replace h := aN_el h
  obtain ⟨rfl, h⟩ := h
  replace h := aInt_el h
  obtain ⟨n, rfl, h⟩ := h
  replace h := aInt_el h
  obtain ⟨low, rfl, h⟩ := h
  replace h := aInt_el h
  obtain ⟨high, rfl, h⟩ := h
  replace h := aN_el h
  obtain ⟨rfl, h⟩ := h
  refine Eq.mpr (nf_law02_within n low high K) ?_
  unfold m_law02_within at h
  revert h
  exact req_So (fun h => h)

theorem ok_law02_Some : SpecOK Try.prog elTT 119 (sp_law02_Some m_law02_Some) := by
  refine spec_of_exF (cfg := (cfg_law02_Some m_law02_within)) (cfg_ok rfl rfl rfl) (sig_cons ok_law02_within sig_nil) (fn := Try.f119) (by kernel_rfl) (by kernel_rfl) (by kernel_rfl) ?_
  intro args H K h
  change tr_law02_Some m_law02_Some args H K at h
  unfold tr_law02_Some at h
  replace h := aC_el h
  obtain ⟨a0, _, rfl, h⟩ := h
  replace h := aN_el h
  obtain ⟨rfl, h⟩ := h
  replace h := aAgg_el h
  obtain ⟨c0, rfl, h⟩ := h
  replace h := d_api_Config_el h
  obtain ⟨c, rfl, h⟩ := h
  replace h := aN_el h
  obtain ⟨rfl, h⟩ := h
  refine Eq.mpr (nf_law02_Some m_law02_within c K) ?_
  unfold m_law02_Some at h
  revert h
  exact bind_So fun y0 => bind_So fun y1 => bind_So fun y2 => bind_So fun y3 => bind_So fun y4 => bind_So fun y5 => bind_So fun y6 => bind_So fun y7 => bind_So fun y8 => bind_So fun y9 => bind_So fun y10 => fun h => h

theorem lpok_law01_Ints_Same_L1 (a : List Int) (b : List Int) (iv : Int) (K : V → Heap → Prop) : So (lp_law01_Ints_Same_L1 (a) (b) iv) (fun (x : Bool) => K (vb (x)) [.row 0 a true, .row 0 b true]) → Loop cfg_law01_Ints_Same (⟨26, 2⟩ : Cx) (at_ (bodyOf Try.f20) [1, 1, 0, 1, 0, 0]) (mkEnv [(0, .row 0), (1, .row 1), (5, vi (iv))]) [.row 0 (a : List (Int)) Bool.true, .row 0 (b : List (Int)) Bool.true] (contK cfg_law01_Ints_Same (⟨26, 2⟩ : Cx) (bodyOf Try.f20) [1, 1, 0, 1, 0] (retK cfg_law01_Ints_Same Try.f20 2 K)) := by
  refine loopK_So (fun (s_ : Int) => (mkEnv [(0, .row 0), (1, .row 1), (5, vi ((s_)))])) (fun (s_ : Int) => [.row 0 (a : List (Int)) Bool.true, .row 0 (b : List (Int)) Bool.true]) (fun (x : Bool) => K (vb (x)) [.row 0 a true, .row 0 b true]) ?_ iv
  intro s_ J1 h
  clear iv
  revert h; revert s_; intro iv h
  refine Eq.mpr (nf_law01_Ints_Same_L1 a b iv K J1) ?_
  have h : So (sb_law01_Ints_Same_L1 (a) (b) iv) _ := h
  unfold sb_law01_Ints_Same_L1 at h
  revert h
  exact br_So (req_So (req_So (req_So (req_So (br_So (fun h => h) (fun h => h)))))) (fun h => h)

theorem ok_law01_Ints_Same : SpecOK Try.prog elTT 20 (sp_law01_Ints_Same m_law01_Ints_Same) := by
  refine spec_of_exF (cfg := cfg_law01_Ints_Same) (cfg_ok rfl rfl rfl) sig_nil (fn := Try.f20) (by kernel_rfl) (by kernel_rfl) (by kernel_rfl) ?_
  intro args H K h
  change tr_law01_Ints_Same m_law01_Ints_Same args H K at h
  unfold tr_law01_Ints_Same at h
  replace h := aC_el h
  obtain ⟨a0, _, rfl, h⟩ := h
  replace h := aC_el h
  obtain ⟨a1, _, rfl, h⟩ := h
  replace h := aN_el h
  obtain ⟨rfl, h⟩ := h
  replace h := aRow_el h
  obtain ⟨rfl, h⟩ := h
  replace h := aRow_el h
  obtain ⟨rfl, h⟩ := h
  replace h := aC_el h
  obtain ⟨b0, _, rfl, h⟩ := h
  replace h := aC_el h
  obtain ⟨b1, _, rfl, h⟩ := h
  replace h := aN_el h
  obtain ⟨rfl, h⟩ := h
  replace h := bRow_el h
  obtain ⟨(a : List Int), rfl, h⟩ := h
  replace h := bRow_el h
  obtain ⟨(b : List Int), rfl, h⟩ := h
  refine Eq.mpr (nf_law01_Ints_Same a b K) ?_
  unfold m_law01_Ints_Same at h
  revert h
  exact br_So (fun h => h) (lpok_law01_Ints_Same_L1 a b (0) K)

end Go.Rx
end

section
/- The document's layouts, plainly: they are the program's. -/
namespace Go.Rx
open Go.Proofs

theorem wrap_u64' (x : Int) : IntKind.wrap IntKind.u64 x = x % 18446744073709551616 := rfl
theorem within_eq {n low high : Int} (h : 0 ≤ low ∧ low ≤ high ∧ high ≤ 1099511627776) : ∃ x, m_law02_within n low high = some x ∧ low ≤ x ∧ x ≤ high := by
  unfold m_law02_within
  have hu : ∀ x : Int, 0 ≤ x → x < 18446744073709551616 → IntKind.wrap IntKind.u64 x = x := fun x h1 h2 => by
    rw [wrap_u64']; omega
  have hn : ∀ x : Int, 0 ≤ IntKind.wrap IntKind.u64 x := fun x => by
    rw [wrap_u64']; exact Int.emod_nonneg _ (by decide)
  rw [wrap_id (x := high - low) (by omega) (by omega), wrap_id (x := high - low + 1) (by omega) (by omega), hu (high - low + 1) (by omega) (by omega)]
  have e : (!(high - low + 1 == 0)) = true := by simp; omega
  rw [e, cond_true]
  have h0 := hn n
  generalize IntKind.wrap IntKind.u64 n = m at *
  rw [Int.tmod_eq_emod_of_nonneg h0]
  have h1 := Int.emod_nonneg m (b := high - low + 1) (by omega)
  have h2 := Int.emod_lt_of_pos m (b := high - low + 1) (by omega)
  generalize m % (high - low + 1) = k at *
  refine ⟨_, rfl, ?_⟩
  rw [wrap_id (x := k) (by omega) (by omega), wrap_id (by omega) (by omega)]
  omega

theorem Some_eq (c : T_api_Config) : ∃ d, m_law02_Some c = some d ∧ RightC d := by
  unfold m_law02_Some
  obtain ⟨a0, e0, h0⟩ := within_eq (n := c.Workers) (low := 1) (high := 64) (by omega)
  obtain ⟨a1, e1, h1⟩ := within_eq (n := c.CPUs) (low := 1) (high := 8) (by omega)
  obtain ⟨a2, e2, h2⟩ := within_eq (n := c.Pages) (low := 1) (high := 256) (by omega)
  obtain ⟨a3, e3, h3⟩ := within_eq (n := c.Stripes) (low := 1) (high := 64) (by omega)
  obtain ⟨a4, e4, h4⟩ := within_eq (n := c.Tries) (low := 0) (high := 16) (by omega)
  obtain ⟨a5, e5, h5⟩ := within_eq (n := c.Wait) (low := 0) (high := 64) (by omega)
  obtain ⟨a6, e6, h6⟩ := within_eq (n := c.Clock) (low := 1) (high := 1099511627776) (by omega)
  obtain ⟨a7, e7, h7⟩ := within_eq (n := c.Private) (low := 1) (high := 8) (by omega)
  obtain ⟨a8, e8, h8⟩ := within_eq (n := c.Cache) (low := 0) (high := 8) (by omega)
  obtain ⟨a9, e9, h9⟩ := within_eq (n := c.Bin) (low := 0) (high := 16) (by omega)
  obtain ⟨a10, e10, h10⟩ := within_eq (n := c.Batch) (low := 1) (high := 8) (by omega)
  rw [e0, e1, e2, e3, e4, e5, e6, e7, e8, e9, e10]
  exact ⟨_, rfl, h0, h1, h2, h3, h4, h5, h6, h7, h8, h9, h10⟩

section
variable {c : T_api_Config}
theorem rChunks_eq (h : RightC c) : m_ref02_Layout_Chunks ⟨c⟩ = some ((c.Pages + 3) / 4) := by
  have := h.pages
  unfold m_ref02_Layout_Chunks
  simp only
  rw [wrap_id (x := c.Pages + 3) (by omega) (by omega), Int.tdiv_eq_ediv_of_nonneg (by omega), wrap_id (by omega) (by omega)]
theorem rtable_eq (h : RightC c) : m_ref02_Layout_table ⟨c⟩ = some (layC c).at_0 := by
  have := h.stripes
  unfold m_ref02_Layout_table
  simp only [layC]
  rw [wrap_id (by omega) (by omega)]
theorem rheads_eq (h : RightC c) : m_ref02_Layout_heads ⟨c⟩ = some (layC c).at_6 := by
  have := h.stripes; have := h.pages
  unfold m_ref02_Layout_heads
  rw [rtable_eq h, rChunks_eq h]
  simp only [layC, Option.bind_some]
  simp (disch := omega) only [wrap_id]
theorem rcaches_eq (h : RightC c) : m_ref02_Layout_caches ⟨c⟩ = some (layC c).at_7 := by
  have := h.stripes; have := h.pages
  unfold m_ref02_Layout_caches
  rw [rheads_eq h]
  simp only [layC, Option.bind_some]
  simp (disch := omega) only [wrap_id]
theorem rbins_eq (h : RightC c) : m_ref02_Layout_bins ⟨c⟩ = some (layC c).at_8 := by
  have := h.stripes; have := h.pages; have := h.cpus; have := h.cache
  have hp := prodC h
  unfold m_ref02_Layout_bins
  rw [rcaches_eq h]
  simp only [layC, Option.bind_some]
  have e : 5 * c.CPUs = c.CPUs * 5 := Int.mul_comm _ _
  rw [wrap_id (x := 5 * c.CPUs) (by omega) (by omega), wrap_id (x := c.Cache + 1) (by omega) (by omega), e]
  generalize c.CPUs * 5 * (c.Cache + 1) = q at *
  simp (disch := omega) only [wrap_id]
theorem rlive_eq (h : RightC c) : m_ref02_Layout_live ⟨c⟩ = some (layC c).at_9 := by
  have := h.stripes; have := h.pages; have := h.bin
  have hp := prodC h
  unfold m_ref02_Layout_live
  rw [rbins_eq h]
  simp only [layC, Option.bind_some]
  generalize c.CPUs * 5 * (c.Cache + 1) = q at *
  simp (disch := omega) only [wrap_id]
theorem rUser_eq (h : RightC c) : m_ref02_Layout_User ⟨c⟩ = some (layC c).at_10 := by
  have := h.stripes; have := h.pages; have := h.bin
  have hp := prodC h
  unfold m_ref02_Layout_User
  rw [rlive_eq h]
  simp only [layC, Option.bind_some]
  generalize c.CPUs * 5 * (c.Cache + 1) = q at *
  simp (disch := omega) only [wrap_id, Int.tdiv_eq_ediv_of_nonneg, Int.mul_comm 32]
theorem rWords_eq (h : RightC c) : m_ref02_Layout_Words ⟨c⟩ = some (layC c).at_11 := by
  have := h.stripes; have := h.pages; have := h.bin
  have hb := (layC_ok h).big
  unfold m_ref02_Layout_Words
  rw [rUser_eq h]
  have e : (layC c).at_11 = (layC c).at_10 + c.Pages * 32 := rfl
  rw [e]
  generalize (layC c).at_10 = q at *
  simp only [Option.bind_some]
  simp (disch := omega) only [wrap_id, Int.mul_comm 32]
end

/-- Are words the same? -/
theorem Same_eq {a b : List Int} (ha : a.length ≤ 4611686018427387904) : m_law01_Ints_Same a b = some (decide (a = b)) := by
  unfold m_law01_Ints_Same
  by_cases hl : a.length = b.length
  · have e : (((a.length : Int)) != (b.length : Int)) = false := by simp [hl]
    rw [e, cond_false]
    have key : loopO (fun s => sb_law01_Ints_Same_L1 a b s) 0 = some (decide (a.drop 0 = b.drop 0)) := by
      obtain ⟨r, h1, h2⟩ := loopO_ind (step := fun s => sb_law01_Ints_Same_L1 a b s) (I := fun s => ∃ n : Nat, s = n ∧ n ≤ a.length ∧ (decide (a = b)) = decide (a.drop n = b.drop n))
        (μ := fun s => a.length - s.toNat) (fun r => r = decide (a = b)) (by
          rintro _ ⟨n, rfl, hn, hd⟩
          simp only [sb_law01_Ints_Same_L1]
          by_cases c : n < a.length
          · have c2 : n < b.length := by omega
            have ho : offs (n : Int) 0 = (n : Int) := rfl
            rw [decide_eq_true (show (n : Int) < (a.length : Int) by omega), cond_true, inR_nat c, cond_true, ho, inR_nat c, cond_true, inR_nat c2, cond_true, cond_true, Int.toNat_natCast]
            have g1 : a.getD n 0 = a[n] := by simp [List.getD, c]
            have g2 : b.getD n 0 = b[n] := by simp [List.getD, c2]
            rw [g1, g2]
            have hd' : (a.drop n = b.drop n) ↔ (a[n] = b[n] ∧ a.drop (n + 1) = b.drop (n + 1)) := by
              rw [List.drop_eq_getElem_cons c, List.drop_eq_getElem_cons c2, List.cons.injEq]
            by_cases e : a[n] = b[n]
            · have e2 : (a[n] != b[n]) = false := by simp [e]
              rw [e2, cond_false, wrap_succ (by omega)]
              refine .inl ⟨_, rfl, ⟨n + 1, rfl, c, ?_⟩, by omega⟩
              rw [hd]; simp only [hd', e, true_and]
            · have e2 : (a[n] != b[n]) = true := by simp [e]
              rw [e2, cond_true]
              refine .inr ⟨_, rfl, ?_⟩
              rw [hd]; simp only [hd', e, false_and, decide_false]
          · rw [decide_eq_false (by omega), cond_false]
            refine .inr ⟨_, rfl, ?_⟩
            rw [hd, List.drop_eq_nil_of_le (by omega), List.drop_eq_nil_of_le (by omega)]; simp) 0 ⟨0, rfl, by omega, rfl⟩
      rw [h1, h2]; rfl
    exact key
  · have e : (((a.length : Int)) != (b.length : Int)) = true := by simp; omega
    rw [e, cond_true, decide_eq_false (fun h => hl (by rw [h]))]
end Go.Rx
end

section
/- Contracts. -/
namespace Go.Rx
open Go.Proofs
set_option maxRecDepth 100000
set_option maxHeartbeats 4000000
/-! assart/assartref08.Of -/
/-! assart/assartref08.there -/
/-! assart/assartref08.Pages -/
/-! assart/assartref08.Mapped -/
/-! assart/assartref08.Count -/
/-! assart/assartref08.Turn -/
/-! assart/assartref08.all -/
/-! assart/assartref08.Covers -/
/-! assart/assartref08.Ensure -/
attribute [local irreducible] Loop ex exF contK roundK retK at_ bodyOf mkEnv
end Go.Rx
end

section
/- Layer 8, plainly: the program's functions and the document's tell the same. -/
namespace Go.Rx
open Go.Proofs

section
variable {L : T_layout_Layout} {nw : Nat} {cur : List Int}
theorem Unmap_eq (v : VOK L nw cur) (k : Int) : m_chunk_Unmap nw cur L k = some (turnB cur L.c.Pages L.at_0 k 0, turnU cur L.c.Pages L.at_0 k 0) := by
  unfold m_chunk_Unmap; rw [turn_eq v]; rfl
theorem Mapped_eq (v : VOK L nw cur) (k : Int) : m_chunk_Mapped nw cur L k = some (isB cur L.c.Pages L.at_0 k 1) := by
  unfold m_chunk_Mapped; rw [is_eq v]; rfl
theorem Covers_eq (v : VOK L nw cur) {p n : Int} (hp : -9223372036854775808 ≤ p ∧ p ≤ 9223372036854775807) : m_chunk_Covers nw cur L p n = some (coversM cur L.c.Pages L.at_0 p n) := by
  unfold m_chunk_Covers
  rw [span_eq v.lay hp, Option.bind_some]
  unfold coversM
  cases hs : spanB L.c.Pages p n with
  | false => exact loopO_end rfl
  | true =>
    obtain ⟨s1, s2, s3, s4⟩ := span_of hs
    have hpg := v.lay.pages
    rw [if_pos rfl, ensK_span hs, Bool.true_and]
    generalize hm : ((p + n - 1) / 4 - p / 4 + 1).toNat = m
    obtain ⟨r, h1, rfl⟩ := loopO_ind (step := fun s : Bool × Int => sb_chunk_Covers_L1 nw cur L ((p + n - 1) / 4) s.1 s.2)
      (I := fun s => ∃ j : Nat, j ≤ m ∧ s.2 = p / 4 + j ∧ s.1 = allN cur L.c.Pages L.at_0 (p / 4) j)
      (μ := fun s => ((p + n - 1) / 4 + 1 - s.2).toNat) (fun r => r = allN cur L.c.Pages L.at_0 (p / 4) m) (by
        rintro ⟨b, k⟩ ⟨j, hj, e1, e2⟩
        simp only at e1 e2
        subst e1; subst e2
        have hmono : allN cur L.c.Pages L.at_0 (p / 4) j = false → allN cur L.c.Pages L.at_0 (p / 4) m = false := by
          intro hf
          cases hm2 : allN cur L.c.Pages L.at_0 (p / 4) m with
          | false => rfl
          | true => rw [allN_iff.2 (fun i hi => allN_iff.1 hm2 i (by omega))] at hf; exact hf
        simp only [sb_chunk_Covers_L1]
        cases ha : allN cur L.c.Pages L.at_0 (p / 4) j with
        | false => exact .inr ⟨false, rfl, (hmono ha).symm⟩
        | true =>
          rw [cond_true]
          by_cases e : p / 4 + (j : Int) ≤ (p + n - 1) / 4
          · rw [decide_eq_true e, cond_true, Mapped_eq v, Option.bind_some, wrap_id (x := p / 4 + (j : Int) + 1) (by omega) (by omega)]
            refine .inl ⟨_, rfl, ⟨j + 1, by omega, by simp only; omega, ?_⟩, by simp only; omega⟩
            simp only [allN, ha, Bool.true_and]
          · rw [decide_eq_false e, cond_false]
            have ej : j = m := by omega
            subst ej
            exact .inr ⟨true, rfl, ha.symm⟩) (true, p / 4) ⟨0, by omega, by simp, rfl⟩
    exact h1
theorem cntN_le (cur : List Int) (pg tb : Int) : ∀ n : Nat, 0 ≤ cntN cur pg tb n ∧ cntN cur pg tb n ≤ 4 * (n : Int)
  | 0 => by simp [cntN]
  | n + 1 => by
    have h := cntN_le cur pg tb n
    have h2 := pagesN_le pg n
    simp only [cntN]
    cases isB cur pg tb n 1 <;> simp only [cond_true, cond_false] <;> omega
theorem cCount_eq (v : VOK L nw cur) : m_chunk_Count nw cur L = some (countM cur L.c.Pages L.at_0) := by
  unfold m_chunk_Count
  rw [Chunks_eq v.lay, Option.bind_some]
  have hpg := v.lay.pages
  unfold countM
  have hc : (chunksN L.c.Pages : Int) = (L.c.Pages + 3) / 4 := by unfold chunksN; omega
  generalize chunksN L.c.Pages = m at *
  rw [← hc]
  obtain ⟨r, h1, rfl⟩ := loopO_ind (step := fun s : Int × Int => sb_chunk_Count_L1 nw cur L (m : Int) s.1 s.2)
    (I := fun s => ∃ j : Nat, j ≤ m ∧ s = (cntN cur L.c.Pages L.at_0 j, (j : Int))) (μ := fun s => m - s.2.toNat) (fun r => r = cntN cur L.c.Pages L.at_0 m) (by
      rintro _ ⟨j, hj, rfl⟩
      simp only [sb_chunk_Count_L1]
      have hle := cntN_le cur L.c.Pages L.at_0 j
      have hpn := pagesN_le L.c.Pages j
      by_cases e : j < m
      · rw [decide_eq_true (show (j : Int) < (m : Int) by omega), cond_true, Mapped_eq v, Option.bind_some, Pages_eq v.lay, Option.bind_some, wrap_succ (by omega), wrap_id (by omega) (by omega)]
        refine .inl ⟨(cntN cur L.c.Pages L.at_0 (j + 1), ((j + 1 : Nat) : Int)), ?_, ⟨j + 1, e, rfl⟩, by simp only; omega⟩
        simp only [cntN]
        cases isB cur L.c.Pages L.at_0 j 1 <;> simp
      · have ej : j = m := by omega
        subst ej
        rw [decide_eq_false (by omega), cond_false]
        exact .inr ⟨_, rfl, rfl⟩) (0, 0) ⟨0, by omega, rfl⟩
  exact h1
end

/-! The document's. -/
section
variable {c : T_api_Config}
end
end Go.Rx
end

section
/- Contracts. -/
namespace Go.Rx
open Go.Proofs
set_option maxRecDepth 100000
set_option maxHeartbeats 4000000
/-! assart/assartlaw08.Small -/
def tr_law08_Small (m_ : T_api_Config → Option (T_api_Config)) (args : List V) (H : Heap) (K : V → Heap → Prop) : Prop :=
  aC args fun a0 r => aN r <| aAgg a0 fun c0 => d_api_Config c0 fun c => aN H <| So (m_ c) fun x => K (.agg (e_api_Config (x))) []
def sp_law08_Small (m_ : T_api_Config → Option (T_api_Config)) : Spec := ⟨tr_law08_Small m_, (true : Bool)⟩

/-! assart/assartlaw08.Begin -/
def tr_law08_Begin (m_ : T_api_Config → Option (T_layout_Layout × T_assartref02_Layout × (List Int))) (args : List V) (H : Heap) (K : V → Heap → Prop) : Prop :=
  aC args fun a0 r => aN r <| aAgg a0 fun c0 => d_api_Config c0 fun c => aN H <| So (m_ c) fun x => K (.tup [.agg (e_layout_Layout (x.1)), .agg (e_assartref02_Layout (x.2.1)), .row 0]) [.row 0 (x.2.2) false]
def sp_law08_Begin (m_ : T_api_Config → Option (T_layout_Layout × T_assartref02_Layout × (List Int))) : Spec := ⟨tr_law08_Begin m_, (true : Bool)⟩

/-! assart/assartlaw08.done -/
def tr_law08_done (m_ : Nat → (List Int) → T_layout_Layout → T_assartlaw08_Act → Option (Int × (List Int))) (args : List V) (H : Heap) (K : V → Heap → Prop) : Prop :=
  aC args fun a0 r => aC r fun a1 r => aC r fun a2 r => aN r <| aPtr 0 a0 <| aAgg a1 fun c1 => d_layout_Layout c1 fun l2 => aAgg a2 fun c2 => d_assartlaw08_Act c2 fun a => aC H fun b0 r => aC r fun b1 r => aN r <| bView 1 b0 fun ws cur xs => bRow 0 true b1 fun (l : List Int) => ws = l ∧ xs.length ≤ 2 ∧ So (m_ (ws.length) cur l2 a) fun x => K (vi (x.1)) [.pk 0 [ws, x.2] xs [.row 1], .row 0 l true]
def sp_law08_done (m_ : Nat → (List Int) → T_layout_Layout → T_assartlaw08_Act → Option (Int × (List Int))) : Spec := ⟨tr_law08_done m_, (true : Bool)⟩

/-! assart/assartlaw08.told -/
noncomputable def cfg_law08_Small (m_law02_Some : T_api_Config → Option (T_api_Config)) : Cfg := { cfgB with
  sigs := (sigC 119 (sp_law02_Some m_law02_Some) sigN) }

noncomputable def cfg_law08_Begin (m_law08_Small : T_api_Config → Option (T_api_Config)) (m_layout_Of : T_api_Config → Option (T_layout_Layout × Int)) (m_ref02_Layout_Words : T_assartref02_Layout → Option (Int)) : Cfg := { cfgB with
  sigs := (sigC 71 (sp_law08_Small m_law08_Small) (sigC 68 (sp_layout_Of m_layout_Of) (sigC 72 (sp_ref02_Layout_Words m_ref02_Layout_Words) sigN))),
  planT := fun r => match r with | 4 => some ((chainT [0, 1, 2, 3] (.alt (chainT [4, 5, 6, 7] .fin) (chainT [5] (.alt (chainT [4, 6, 7] .fin) (chainT [6, 4, 7] .fin))))), 3) | _ => none,
  flag := fun d => Nat.beq d 2 || Nat.beq d 3 }

noncomputable def cfg_law08_done (m_chunk_Map : Nat → (List Int) → T_layout_Layout → Int → Option (Bool × (List Int))) (m_chunk_Unmap : Nat → (List Int) → T_layout_Layout → Int → Option (Bool × (List Int))) (m_chunk_Mapped : Nat → (List Int) → T_layout_Layout → Int → Option (Bool)) (m_chunk_Covers : Nat → (List Int) → T_layout_Layout → Int → Int → Option (Bool)) (m_chunk_Ensure : Nat → (List Int) → T_layout_Layout → Int → Int → Option (Int × (List Int))) (m_chunk_Count : Nat → (List Int) → T_layout_Layout → Option (Int)) : Cfg := { cfgB with
  sigs := (sigC 24 (sp_chunk_Map m_chunk_Map) (sigC 25 (sp_chunk_Unmap m_chunk_Unmap) (sigC 67 (sp_chunk_Mapped m_chunk_Mapped) (sigC 28 (sp_chunk_Covers m_chunk_Covers) (sigC 26 (sp_chunk_Ensure m_chunk_Ensure) (sigC 22 (sp_chunk_Count m_chunk_Count) sigN)))))) }

theorem nf_law08_Small (m_law02_Some : T_api_Config → Option (T_api_Config)) (c : T_api_Config) (K : V → Heap → Prop) : (exF (cfg_law08_Small m_law02_Some) Try.f71 [.agg (e_api_Config c)] [] K) = (
    So (m_law02_Some c) (fun (y0 : T_api_Config) => (K (.agg [vi (IntKind.wrap IntKind.i64 (1 + Int.tmod (T_api_Config.Workers y0) 4)), vi (IntKind.wrap IntKind.i64 (1 + Int.tmod (T_api_Config.CPUs y0) 2)), vi (IntKind.wrap IntKind.i64 (1 + Int.tmod (T_api_Config.Pages y0) 9)), vi (IntKind.wrap IntKind.i64 (1 + Int.tmod (T_api_Config.Stripes y0) 4)), vi (T_api_Config.Tries y0), vi (T_api_Config.Wait y0), vi (T_api_Config.Clock y0), vi (IntKind.wrap IntKind.i64 (1 + Int.tmod (T_api_Config.Private y0) 3)), vi (Int.tmod (T_api_Config.Cache y0) 3), vi (Int.tmod (T_api_Config.Bin y0) 4), vi (IntKind.wrap IntKind.i64 (1 + Int.tmod (T_api_Config.Batch y0) 3))]) []))) := by
  kernel_rfl

theorem nf_law08_Begin (m_law08_Small : T_api_Config → Option (T_api_Config)) (m_layout_Of : T_api_Config → Option (T_layout_Layout × Int)) (m_ref02_Layout_Words : T_assartref02_Layout → Option (Int)) (c : T_api_Config) (K : V → Heap → Prop) : (exF (cfg_law08_Begin m_law08_Small m_layout_Of m_ref02_Layout_Words) Try.f15 [.agg (e_api_Config c)] [] K) = (
    So (m_law08_Small c) (fun (y0 : T_api_Config) => (So (m_layout_Of y0) (fun (y1 : T_layout_Layout × Int) => (So (m_ref02_Layout_Words (T_assartref02_Layout.mk y0)) (fun (y2 : Int) => (((Req (Decidable.decide (0 ≤ y2 ∧ y2 ≤ y2 ∧ y2 ≤ 1048576)) (K (.tup [.agg (e_layout_Layout (Prod.fst y1)), .agg (e_api_Config y0), .row 0]) [.row 0 (List.replicate (Int.toNat y2) (0 : Int) : List (Int)) Bool.false])) ∧ (((Req (Decidable.decide (0 ≤ y2 ∧ y2 ≤ y2 ∧ y2 ≤ 1048576)) (K (.tup [.agg (e_layout_Layout (Prod.fst y1)), .agg (e_api_Config y0), .row 0]) [.row 0 (List.replicate (Int.toNat y2) (0 : Int) : List (Int)) Bool.false])) ∧ (Req (Decidable.decide (0 ≤ y2 ∧ y2 ≤ y2 ∧ y2 ≤ 1048576)) (K (.tup [.agg (e_layout_Layout (Prod.fst y1)), .agg (e_api_Config y0), .row 0]) [.row 0 (List.replicate (Int.toNat y2) (0 : Int) : List (Int)) Bool.false])))))))))))) := by
  kernel_rfl

theorem nf_law08_done (m_chunk_Map : Nat → (List Int) → T_layout_Layout → Int → Option (Bool × (List Int))) (m_chunk_Unmap : Nat → (List Int) → T_layout_Layout → Int → Option (Bool × (List Int))) (m_chunk_Mapped : Nat → (List Int) → T_layout_Layout → Int → Option (Bool)) (m_chunk_Covers : Nat → (List Int) → T_layout_Layout → Int → Int → Option (Bool)) (m_chunk_Ensure : Nat → (List Int) → T_layout_Layout → Int → Int → Option (Int × (List Int))) (m_chunk_Count : Nat → (List Int) → T_layout_Layout → Option (Int)) (ws : List Int) (cur : List Int) (xs : List Value) (l2 : T_layout_Layout) (a : T_assartlaw08_Act) (K : V → Heap → Prop) : (exF (cfg_law08_done m_chunk_Map m_chunk_Unmap m_chunk_Mapped m_chunk_Covers m_chunk_Ensure m_chunk_Count) Try.f18 [.ptr 0 0, .agg (e_layout_Layout l2), .agg (e_assartlaw08_Act a)] [.pk 0 [ws, cur] xs [.row 1], .row 0 ws true] K) = (
    br (T_assartlaw08_Act.Kind a == 0) (((ws = ws) ∧ (((List.length xs ≤ 2) ∧ (So (m_chunk_Map (List.length ws) cur l2 (T_assartlaw08_Act.K a)) (fun (y0 : Bool × List Int) => (br (Prod.fst y0) (K (vi (1)) [.pk 0 [ws, Prod.snd y0] (xs) [.row 1], .row 0 (ws : List (Int)) Bool.true]) (K (vi (0)) [.pk 0 [ws, Prod.snd y0] (xs) [.row 1], .row 0 (ws : List (Int)) Bool.true])))))))) (br (T_assartlaw08_Act.Kind a == 1) (((ws = ws) ∧ (((List.length xs ≤ 2) ∧ (So (m_chunk_Unmap (List.length ws) cur l2 (T_assartlaw08_Act.K a)) (fun (y1 : Bool × List Int) => (br (Prod.fst y1) (K (vi (1)) [.pk 0 [ws, Prod.snd y1] (xs) [.row 1], .row 0 (ws : List (Int)) Bool.true]) (K (vi (0)) [.pk 0 [ws, Prod.snd y1] (xs) [.row 1], .row 0 (ws : List (Int)) Bool.true])))))))) (br (T_assartlaw08_Act.Kind a == 2) (((ws = ws) ∧ (((List.length xs ≤ 2) ∧ (So (m_chunk_Mapped (List.length ws) cur l2 (T_assartlaw08_Act.K a)) (fun (y2 : Bool) => (br (y2) (K (vi (1)) [.pk 0 [ws, cur] (xs) [.row 1], .row 0 (ws : List (Int)) Bool.true]) (K (vi (0)) [.pk 0 [ws, cur] (xs) [.row 1], .row 0 (ws : List (Int)) Bool.true])))))))) (br (T_assartlaw08_Act.Kind a == 3) (((ws = ws) ∧ (((List.length xs ≤ 2) ∧ (So (m_chunk_Covers (List.length ws) cur l2 (T_assartlaw08_Act.K a) (T_assartlaw08_Act.N a)) (fun (y3 : Bool) => (br (y3) (K (vi (1)) [.pk 0 [ws, cur] (xs) [.row 1], .row 0 (ws : List (Int)) Bool.true]) (K (vi (0)) [.pk 0 [ws, cur] (xs) [.row 1], .row 0 (ws : List (Int)) Bool.true])))))))) (br (T_assartlaw08_Act.Kind a == 4) (((ws = ws) ∧ (((List.length xs ≤ 2) ∧ (So (m_chunk_Ensure (List.length ws) cur l2 (T_assartlaw08_Act.K a) (T_assartlaw08_Act.N a)) (fun (y4 : Int × List Int) => (K (vi (Prod.fst y4)) [.pk 0 [ws, Prod.snd y4] (xs) [.row 1], .row 0 (ws : List (Int)) Bool.true]))))))) (((ws = ws) ∧ (((List.length xs ≤ 2) ∧ (So (m_chunk_Count (List.length ws) cur l2) (fun (y5 : Int) => (K (vi (y5)) [.pk 0 [ws, cur] (xs) [.row 1], .row 0 (ws : List (Int)) Bool.true])))))))))))) := by
  kernel_rfl

noncomputable def m_law08_Small (c : T_api_Config) : Option (T_api_Config) :=
  ((m_law02_Some c).bind fun y0 => some (((T_api_Config.mk (IntKind.wrap IntKind.i64 (1 + Int.tmod (T_api_Config.Workers y0) 4)) (IntKind.wrap IntKind.i64 (1 + Int.tmod (T_api_Config.CPUs y0) 2)) (IntKind.wrap IntKind.i64 (1 + Int.tmod (T_api_Config.Pages y0) 9)) (IntKind.wrap IntKind.i64 (1 + Int.tmod (T_api_Config.Stripes y0) 4)) (T_api_Config.Tries y0) (T_api_Config.Wait y0) (T_api_Config.Clock y0) (IntKind.wrap IntKind.i64 (1 + Int.tmod (T_api_Config.Private y0) 3)) (Int.tmod (T_api_Config.Cache y0) 3) (Int.tmod (T_api_Config.Bin y0) 4) (IntKind.wrap IntKind.i64 (1 + Int.tmod (T_api_Config.Batch y0) 3))))))

noncomputable def m_law08_Begin (c : T_api_Config) : Option (T_layout_Layout × T_assartref02_Layout × (List Int)) :=
  ((m_law08_Small c).bind fun y0 => ((m_layout_Of y0).bind fun y1 => ((m_ref02_Layout_Words (T_assartref02_Layout.mk y0)).bind fun y2 => (bif (Decidable.decide (0 ≤ y2 ∧ y2 ≤ y2 ∧ y2 ≤ 1048576)) then some ((((Prod.fst y1)), ((T_assartref02_Layout.mk (y0))), (List.replicate (Int.toNat y2) (0 : Int)))) else none))))

noncomputable def m_law08_done (nw : Nat) (cur : List Int) (l2 : T_layout_Layout) (a : T_assartlaw08_Act) : Option (Int × (List Int)) :=
  (bif (T_assartlaw08_Act.Kind a == 0) then ((m_chunk_Map nw cur l2 (T_assartlaw08_Act.K a)).bind fun y0 => (bif (Prod.fst y0) then some (((1), (Prod.snd y0))) else some (((0), (Prod.snd y0))))) else (bif (T_assartlaw08_Act.Kind a == 1) then ((m_chunk_Unmap nw cur l2 (T_assartlaw08_Act.K a)).bind fun y1 => (bif (Prod.fst y1) then some (((1), (Prod.snd y1))) else some (((0), (Prod.snd y1))))) else (bif (T_assartlaw08_Act.Kind a == 2) then ((m_chunk_Mapped nw cur l2 (T_assartlaw08_Act.K a)).bind fun y2 => (bif (y2) then some (((1), (cur))) else some (((0), (cur))))) else (bif (T_assartlaw08_Act.Kind a == 3) then ((m_chunk_Covers nw cur l2 (T_assartlaw08_Act.K a) (T_assartlaw08_Act.N a)).bind fun y3 => (bif (y3) then some (((1), (cur))) else some (((0), (cur))))) else (bif (T_assartlaw08_Act.Kind a == 4) then ((m_chunk_Ensure nw cur l2 (T_assartlaw08_Act.K a) (T_assartlaw08_Act.N a)).bind fun y4 => some (((Prod.fst y4), (Prod.snd y4)))) else ((m_chunk_Count nw cur l2).bind fun y5 => some (((y5), (cur)))))))))

attribute [local irreducible] Loop ex exF contK roundK retK at_ bodyOf mkEnv
theorem ok_law08_Small : SpecOK Try.prog elTT 71 (sp_law08_Small m_law08_Small) := by
  refine spec_of_exF (cfg := (cfg_law08_Small m_law02_Some)) (cfg_ok rfl rfl rfl) (sig_cons ok_law02_Some sig_nil) (fn := Try.f71) (by kernel_rfl) (by kernel_rfl) (by kernel_rfl) ?_
  intro args H K h
  change tr_law08_Small m_law08_Small args H K at h
  unfold tr_law08_Small at h
  replace h := aC_el h
  obtain ⟨a0, _, rfl, h⟩ := h
  replace h := aN_el h
  obtain ⟨rfl, h⟩ := h
  replace h := aAgg_el h
  obtain ⟨c0, rfl, h⟩ := h
  replace h := d_api_Config_el h
  obtain ⟨c, rfl, h⟩ := h
  replace h := aN_el h
  obtain ⟨rfl, h⟩ := h
  refine Eq.mpr (nf_law08_Small m_law02_Some c K) ?_
  unfold m_law08_Small at h
  revert h
  exact bind_So fun y0 => fun h => h

theorem ok_law08_Begin : SpecOK Try.prog elTT 15 (sp_law08_Begin m_law08_Begin) := by
  refine spec_of_exF (cfg := (cfg_law08_Begin m_law08_Small m_layout_Of m_ref02_Layout_Words)) (cfg_ok rfl rfl rfl) (sig_cons ok_law08_Small (sig_cons ok_layout_Of (sig_cons ok_ref02_Layout_Words sig_nil))) (fn := Try.f15) (by kernel_rfl) (by kernel_rfl) (by kernel_rfl) ?_
  intro args H K h
  change tr_law08_Begin m_law08_Begin args H K at h
  unfold tr_law08_Begin at h
  replace h := aC_el h
  obtain ⟨a0, _, rfl, h⟩ := h
  replace h := aN_el h
  obtain ⟨rfl, h⟩ := h
  replace h := aAgg_el h
  obtain ⟨c0, rfl, h⟩ := h
  replace h := d_api_Config_el h
  obtain ⟨c, rfl, h⟩ := h
  replace h := aN_el h
  obtain ⟨rfl, h⟩ := h
  refine Eq.mpr (nf_law08_Begin m_law08_Small m_layout_Of m_ref02_Layout_Words c K) ?_
  unfold m_law08_Begin at h
  revert h
  exact bind_So fun y0 => bind_So fun y1 => bind_So fun y2 => alt_So (req_So (fun h => h)) (alt_So (req_So (fun h => h)) (req_So (fun h => h)))

theorem ok_law08_done : SpecOK Try.prog elTT 18 (sp_law08_done m_law08_done) := by
  refine spec_of_exF (cfg := (cfg_law08_done m_chunk_Map m_chunk_Unmap m_chunk_Mapped m_chunk_Covers m_chunk_Ensure m_chunk_Count)) (cfg_ok rfl rfl rfl) (sig_cons ok_chunk_Map (sig_cons ok_chunk_Unmap (sig_cons ok_chunk_Mapped (sig_cons ok_chunk_Covers (sig_cons ok_chunk_Ensure (sig_cons ok_chunk_Count sig_nil)))))) (fn := Try.f18) (by kernel_rfl) (by kernel_rfl) (by kernel_rfl) ?_
  intro args H K h
  change tr_law08_done m_law08_done args H K at h
  unfold tr_law08_done at h
  replace h := aC_el h
  obtain ⟨a0, _, rfl, h⟩ := h
  replace h := aC_el h
  obtain ⟨a1, _, rfl, h⟩ := h
  replace h := aC_el h
  obtain ⟨a2, _, rfl, h⟩ := h
  replace h := aN_el h
  obtain ⟨rfl, h⟩ := h
  replace h := aPtr_el h
  obtain ⟨rfl, h⟩ := h
  replace h := aAgg_el h
  obtain ⟨c1, rfl, h⟩ := h
  replace h := d_layout_Layout_el h
  obtain ⟨l2, rfl, h⟩ := h
  replace h := aAgg_el h
  obtain ⟨c2, rfl, h⟩ := h
  replace h := d_assartlaw08_Act_el h
  obtain ⟨a, rfl, h⟩ := h
  replace h := aC_el h
  obtain ⟨b0, _, rfl, h⟩ := h
  replace h := aC_el h
  obtain ⟨b1, _, rfl, h⟩ := h
  replace h := aN_el h
  obtain ⟨rfl, h⟩ := h
  replace h := bView_el h
  obtain ⟨ws, cur, xs, rfl, h⟩ := h
  replace h := bRow_el h
  obtain ⟨(l : List Int), rfl, h⟩ := h
  obtain ⟨rfl, hx, h⟩ := h
  refine Eq.mpr (nf_law08_done m_chunk_Map m_chunk_Unmap m_chunk_Mapped m_chunk_Covers m_chunk_Ensure m_chunk_Count ws cur xs l2 a K) ?_
  unfold m_law08_done at h
  revert h
  exact br_So (and_So (by first | exact rfl | assumption | exact trivial | omega) (and_So (by first | exact rfl | assumption | exact trivial | omega) (bind_So fun y0 => br_So (fun h => h) (fun h => h)))) (br_So (and_So (by first | exact rfl | assumption | exact trivial | omega) (and_So (by first | exact rfl | assumption | exact trivial | omega) (bind_So fun y1 => br_So (fun h => h) (fun h => h)))) (br_So (and_So (by first | exact rfl | assumption | exact trivial | omega) (and_So (by first | exact rfl | assumption | exact trivial | omega) (bind_So fun y2 => br_So (fun h => h) (fun h => h)))) (br_So (and_So (by first | exact rfl | assumption | exact trivial | omega) (and_So (by first | exact rfl | assumption | exact trivial | omega) (bind_So fun y3 => br_So (fun h => h) (fun h => h)))) (br_So (and_So (by first | exact rfl | assumption | exact trivial | omega) (and_So (by first | exact rfl | assumption | exact trivial | omega) (bind_So fun y4 => fun h => h))) (and_So (by first | exact rfl | assumption | exact trivial | omega) (and_So (by first | exact rfl | assumption | exact trivial | omega) (bind_So fun y5 => fun h => h)))))))

end Go.Rx
end

section
/- Small configurations, plainly. -/
namespace Go.Rx
open Go.Proofs

def I64 (x : Int) : Prop := -9223372036854775808 ≤ x ∧ x ≤ 9223372036854775807

theorem Small_eq (c : T_api_Config) : ∃ d, m_law08_Small c = some d ∧ RightC d := by
  obtain ⟨d, h1, h2⟩ := Some_eq c
  unfold m_law08_Small
  rw [h1, Option.bind_some]
  refine ⟨_, rfl, ?_⟩
  obtain ⟨a, b, d', e, f, g, h', i, j, k, l⟩ := h2
  have md : ∀ x m : Int, 0 ≤ x → 0 < m → m ≤ 10 → Int.tmod x m = x % m ∧ 0 ≤ x % m ∧ x % m < m := fun x m h1 h2 h3 => ⟨Int.tmod_eq_emod_of_nonneg h1, Int.emod_nonneg _ (by omega), Int.emod_lt_of_pos _ h2⟩
  have m1 := md d.Workers 4 (by omega) (by omega) (by omega)
  have m2 := md d.CPUs 2 (by omega) (by omega) (by omega)
  have m3 := md d.Pages 9 (by omega) (by omega) (by omega)
  have m4 := md d.Stripes 4 (by omega) (by omega) (by omega)
  have m5 := md d.Private 3 (by omega) (by omega) (by omega)
  have m6 := md d.Cache 3 (by omega) (by omega) (by omega)
  have m7 := md d.Bin 4 (by omega) (by omega) (by omega)
  have m8 := md d.Batch 3 (by omega) (by omega) (by omega)
  simp only [m1.1, m2.1, m3.1, m4.1, m5.1, m6.1, m7.1, m8.1]
  simp (disch := omega) only [wrap_id]
  exact ⟨by simp only; omega, by simp only; omega, by simp only; omega, by simp only; omega, f, g, h', by simp only; omega, by simp only; omega, by simp only; omega, by simp only; omega⟩

theorem Begin_eq (c : T_api_Config) : ∃ d, RightC d ∧ m_law08_Begin c = some (layC d, ⟨d⟩, List.replicate (layC d).at_11.toNat 0) := by
  obtain ⟨d, h1, h2⟩ := Small_eq c
  have hb := (layC_ok h2).big; have h11 := (layC_ok h2).a11; have hp := (layC_ok h2).pages
  refine ⟨d, h2, ?_⟩
  unfold m_law08_Begin
  rw [h1, Option.bind_some, Of_eq, if_pos h2, Option.bind_some, rWords_eq h2, Option.bind_some, decide_eq_true (by omega)]
  rfl

theorem rep_VOK {L : T_layout_Layout} (h : LayOK L) : VOK L (List.replicate L.at_11.toNat (0 : Int)).length (List.replicate L.at_11.toNat 0) := by
  have hb := h.big; have h11 := h.a11; have hp := h.pages
  exact ⟨h, rfl, by simp; omega⟩
theorem VOK.le {L : T_layout_Layout} {nw : Nat} {cur : List Int} (v : VOK L nw cur) : 128 ≤ nw := by
  have hb := v.lay.big; have h11 := v.lay.a11; have hp := v.lay.pages; have := v.all
  omega

end Go.Rx
end

section
/- Contracts. -/
namespace Go.Rx
open Go.Proofs
set_option maxRecDepth 100000
set_option maxHeartbeats 4000000
/-! assart/assartlaw08.ChunkPlays$1 -/
/-! assart/assartlaw08.ChunkCounted$1 -/
/-! assart/assartlaw08.ChunkOnly$1 -/
def tr_law08_ChunkOnly_1 (m_ : Nat → (List Int) → T_layout_Layout → T_assartlaw08_Act → Option ((List Int))) (args : List V) (H : Heap) (K : V → Heap → Prop) : Prop :=
  aC args fun a0 r => aC r fun a1 r => aC r fun a2 r => aN r <| aPtr 0 a0 <| aPtr 1 a1 <| aPtr 2 a2 <| aC H fun b0 r => aC r fun b1 r => aC r fun b2 r => aC r fun b3 r => aN r <| bView 3 b0 fun ws cur xs => bCells b1 fun U c1 => d_layout_Layout c1 fun l2 => bCells b2 fun U2 c2 => d_assartlaw08_Act c2 fun a => bRow 0 true b3 fun (l : List Int) => ws = l ∧ xs.length ≤ 2 ∧ So (m_ (ws.length) cur l2 a) fun x => K (.tup []) [.pk 0 [ws, x] xs [.row 3], .cells U (e_layout_Layout l2), .cells U2 (e_assartlaw08_Act a), .row 0 l true]
def sp_law08_ChunkOnly_1 (m_ : Nat → (List Int) → T_layout_Layout → T_assartlaw08_Act → Option ((List Int))) : Spec := ⟨tr_law08_ChunkOnly_1 m_, (true : Bool)⟩

/-! assart/assartlaw08.lives$1 -/
def tr_law08_lives_1 (m_ : Nat → (List Int) → T_layout_Layout → Int → Option ((List Int) × Int)) (args : List V) (H : Heap) (K : V → Heap → Prop) : Prop :=
  aC args fun a0 r => aC r fun a1 r => aC r fun a2 r => aN r <| aPtr 0 a0 <| aPtr 1 a1 <| aPtr 2 a2 <| aC H fun b0 r => aC r fun b1 r => aC r fun b2 r => aC r fun b3 r => aN r <| bView 3 b0 fun ws cur xs => bCells b1 fun U c1 => d_layout_Layout c1 fun l2 => bCells b2 fun U2 c2 => aC c2 fun d2_0 r => aInt d2_0 fun n => aN r <| bRow 0 true b3 fun (l : List Int) => ws = l ∧ xs.length ≤ 2 ∧ So (m_ (ws.length) cur l2 n) fun x => K (.tup []) [.pk 0 [ws, x.1] xs [.row 3], .cells U (e_layout_Layout l2), .cells U2 [vi (x.2)], .row 0 l true]
def sp_law08_lives_1 (m_ : Nat → (List Int) → T_layout_Layout → Int → Option ((List Int) × Int)) : Spec := ⟨tr_law08_lives_1 m_, (true : Bool)⟩

noncomputable def cfg_law08_ChunkOnly_1 (m_law08_done : Nat → (List Int) → T_layout_Layout → T_assartlaw08_Act → Option (Int × (List Int))) : Cfg := { cfgB with
  sigs := (sigC 18 (sp_law08_done m_law08_done) sigN) }

noncomputable def cfg_law08_lives_1 (m_chunk_Ensure : Nat → (List Int) → T_layout_Layout → Int → Int → Option (Int × (List Int))) : Cfg := { cfgB with
  sigs := (sigC 26 (sp_chunk_Ensure m_chunk_Ensure) sigN) }

theorem nf_law08_ChunkOnly_1 (m_law08_done : Nat → (List Int) → T_layout_Layout → T_assartlaw08_Act → Option (Int × (List Int))) (ws : List Int) (cur : List Int) (xs : List Value) (l2 : T_layout_Layout) (a : T_assartlaw08_Act) (U : TypeId) (U2 : TypeId) (K : V → Heap → Prop) : (exF (cfg_law08_ChunkOnly_1 m_law08_done) Try.f29 [.ptr 0 0, .ptr 1 0, .ptr 2 0] [.pk 0 [ws, cur] xs [.row 3], .cells U (e_layout_Layout l2), .cells U2 (e_assartlaw08_Act a), .row 0 ws true] K) = (
    ((ws = ws) ∧ (((List.length xs ≤ 2) ∧ (So (m_law08_done (List.length ws) cur l2 a) (fun (y0 : Int × List Int) => (K (.tup []) [.pk 0 [ws, Prod.snd y0] (xs) [.row 3], .cells U (e_layout_Layout l2), .cells U2 (e_assartlaw08_Act a), .row 0 (ws : List (Int)) Bool.true]))))))) := by
  kernel_rfl

theorem nf_law08_lives_1 (m_chunk_Ensure : Nat → (List Int) → T_layout_Layout → Int → Int → Option (Int × (List Int))) (ws : List Int) (cur : List Int) (xs : List Value) (l2 : T_layout_Layout) (n : Int) (U : TypeId) (U2 : TypeId) (K : V → Heap → Prop) : (exF (cfg_law08_lives_1 m_chunk_Ensure) Try.f70 [.ptr 0 0, .ptr 1 0, .ptr 2 0] [.pk 0 [ws, cur] xs [.row 3], .cells U (e_layout_Layout l2), .cells U2 [vi n], .row 0 ws true] K) = (
    ((ws = ws) ∧ (((List.length xs ≤ 2) ∧ (So (m_chunk_Ensure (List.length ws) cur l2 3 2) (fun (y0 : Int × List Int) => (K (.tup []) [.pk 0 [ws, Prod.snd y0] (xs) [.row 3], .cells U (e_layout_Layout l2), .cells U2 [vi (Prod.fst y0)], .row 0 (ws : List (Int)) Bool.true]))))))) := by
  kernel_rfl

noncomputable def m_law08_ChunkOnly_1 (nw : Nat) (cur : List Int) (l2 : T_layout_Layout) (a : T_assartlaw08_Act) : Option ((List Int)) :=
  ((m_law08_done nw cur l2 a).bind fun y0 => some ((Prod.snd y0)))

noncomputable def m_law08_lives_1 (nw : Nat) (cur : List Int) (l2 : T_layout_Layout) (n : Int) : Option ((List Int) × Int) :=
  ((m_chunk_Ensure nw cur l2 3 2).bind fun y0 => some (((Prod.snd y0), (Prod.fst y0))))

attribute [local irreducible] Loop ex exF contK roundK retK at_ bodyOf mkEnv
theorem ok_law08_ChunkOnly_1 : SpecOK Try.prog elTT 29 (sp_law08_ChunkOnly_1 m_law08_ChunkOnly_1) := by
  refine spec_of_exF (cfg := (cfg_law08_ChunkOnly_1 m_law08_done)) (cfg_ok rfl rfl rfl) (sig_cons ok_law08_done sig_nil) (fn := Try.f29) (by kernel_rfl) (by kernel_rfl) (by kernel_rfl) ?_
  intro args H K h
  change tr_law08_ChunkOnly_1 m_law08_ChunkOnly_1 args H K at h
  unfold tr_law08_ChunkOnly_1 at h
  replace h := aC_el h
  obtain ⟨a0, _, rfl, h⟩ := h
  replace h := aC_el h
  obtain ⟨a1, _, rfl, h⟩ := h
  replace h := aC_el h
  obtain ⟨a2, _, rfl, h⟩ := h
  replace h := aN_el h
  obtain ⟨rfl, h⟩ := h
  replace h := aPtr_el h
  obtain ⟨rfl, h⟩ := h
  replace h := aPtr_el h
  obtain ⟨rfl, h⟩ := h
  replace h := aPtr_el h
  obtain ⟨rfl, h⟩ := h
  replace h := aC_el h
  obtain ⟨b0, _, rfl, h⟩ := h
  replace h := aC_el h
  obtain ⟨b1, _, rfl, h⟩ := h
  replace h := aC_el h
  obtain ⟨b2, _, rfl, h⟩ := h
  replace h := aC_el h
  obtain ⟨b3, _, rfl, h⟩ := h
  replace h := aN_el h
  obtain ⟨rfl, h⟩ := h
  replace h := bView_el h
  obtain ⟨ws, cur, xs, rfl, h⟩ := h
  replace h := bCells_el h
  obtain ⟨U, c1, rfl, h⟩ := h
  replace h := d_layout_Layout_el h
  obtain ⟨l2, rfl, h⟩ := h
  replace h := bCells_el h
  obtain ⟨U2, c2, rfl, h⟩ := h
  replace h := d_assartlaw08_Act_el h
  obtain ⟨a, rfl, h⟩ := h
  replace h := bRow_el h
  obtain ⟨(l : List Int), rfl, h⟩ := h
  obtain ⟨rfl, hx, h⟩ := h
  refine Eq.mpr (nf_law08_ChunkOnly_1 m_law08_done ws cur xs l2 a U U2 K) ?_
  unfold m_law08_ChunkOnly_1 at h
  revert h
  exact and_So (by first | exact rfl | assumption | exact trivial | omega) (and_So (by first | exact rfl | assumption | exact trivial | omega) (bind_So fun y0 => fun h => h))

theorem ok_law08_lives_1 : SpecOK Try.prog elTT 70 (sp_law08_lives_1 m_law08_lives_1) := by
  refine spec_of_exF (cfg := (cfg_law08_lives_1 m_chunk_Ensure)) (cfg_ok rfl rfl rfl) (sig_cons ok_chunk_Ensure sig_nil) (fn := Try.f70) (by kernel_rfl) (by kernel_rfl) (by kernel_rfl) ?_
  intro args H K h
  change tr_law08_lives_1 m_law08_lives_1 args H K at h
  unfold tr_law08_lives_1 at h
  replace h := aC_el h
  obtain ⟨a0, _, rfl, h⟩ := h
  replace h := aC_el h
  obtain ⟨a1, _, rfl, h⟩ := h
  replace h := aC_el h
  obtain ⟨a2, _, rfl, h⟩ := h
  replace h := aN_el h
  obtain ⟨rfl, h⟩ := h
  replace h := aPtr_el h
  obtain ⟨rfl, h⟩ := h
  replace h := aPtr_el h
  obtain ⟨rfl, h⟩ := h
  replace h := aPtr_el h
  obtain ⟨rfl, h⟩ := h
  replace h := aC_el h
  obtain ⟨b0, _, rfl, h⟩ := h
  replace h := aC_el h
  obtain ⟨b1, _, rfl, h⟩ := h
  replace h := aC_el h
  obtain ⟨b2, _, rfl, h⟩ := h
  replace h := aC_el h
  obtain ⟨b3, _, rfl, h⟩ := h
  replace h := aN_el h
  obtain ⟨rfl, h⟩ := h
  replace h := bView_el h
  obtain ⟨ws, cur, xs, rfl, h⟩ := h
  replace h := bCells_el h
  obtain ⟨U, c1, rfl, h⟩ := h
  replace h := d_layout_Layout_el h
  obtain ⟨l2, rfl, h⟩ := h
  replace h := bCells_el h
  obtain ⟨U2, c2, rfl, h⟩ := h
  replace h := aC_el h
  obtain ⟨d2_0, _, rfl, h⟩ := h
  replace h := aInt_el h
  obtain ⟨n, rfl, h⟩ := h
  replace h := aN_el h
  obtain ⟨rfl, h⟩ := h
  replace h := bRow_el h
  obtain ⟨(l : List Int), rfl, h⟩ := h
  obtain ⟨rfl, hx, h⟩ := h
  refine Eq.mpr (nf_law08_lives_1 m_chunk_Ensure ws cur xs l2 n U U2 K) ?_
  unfold m_law08_lives_1 at h
  revert h
  exact and_So (by first | exact rfl | assumption | exact trivial | omega) (and_So (by first | exact rfl | assumption | exact trivial | omega) (bind_So fun y0 => fun h => h))

end Go.Rx
end

section
/- view.Do, by which program it runs. -/
namespace Go.Rx
theorem Req_el {b : Bool} {A : Prop} (h : Req b A) : b = true ∧ A := by
  cases b with
  | true => exact ⟨rfl, h⟩
  | false => exact h.elim
end Go.Rx
end

section
/- view.Do of the programs of chapter 8. -/
namespace Go.Rx
open Go.Proofs
set_option maxRecDepth 100000
set_option maxHeartbeats 4000000
def tr_do_law08_ChunkOnly_1 (m_ : Nat → (List Int) → T_layout_Layout → T_assartlaw08_Act → Option ((List Int))) (args : List V) (H : Heap) (K : V → Heap → Prop) : Prop :=
  aC args fun a0 r => aC r fun a1 r => aN r <| aRow 0 a0 <| aFn 29 a1 fun cs => aC cs fun p0 r => aC r fun p1 r => aN r <| aPtr 1 p0 <| aPtr 2 p1 <| aC H fun b3 r => aC r fun b1 r => aC r fun b2 r => aN r <| bRow 0 true b3 fun (ws : List Int) => bCells b1 fun U c1 => d_layout_Layout c1 fun l2 => bCells b2 fun U2 c2 => d_assartlaw08_Act c2 fun a => Req (Nat.ble ws.length 1048576) (So (m_ (ws.length) ws l2 a) fun x => ∀ nd : List Pr, K (.tup [.row 3, .row 4, vi 0]) [.row 0 ws true, .cells U (e_layout_Layout l2), .cells U2 (e_assartlaw08_Act a), .row 0 (x) false, .row 2 nd false])
def sp_do_law08_ChunkOnly_1 (m_ : Nat → (List Int) → T_layout_Layout → T_assartlaw08_Act → Option ((List Int))) : Spec := ⟨tr_do_law08_ChunkOnly_1 m_, (true : Bool)⟩
noncomputable def cfgDo_law08_ChunkOnly_1 (m_ : Nat → (List Int) → T_layout_Layout → T_assartlaw08_Act → Option ((List Int))) : Cfg := cfgDo 29 (sp_law08_ChunkOnly_1 m_) [(0, none), (7, none), (10, none), (31, none), (32, none), (33, none)]

def tr_do_law08_lives_1 (m_ : Nat → (List Int) → T_layout_Layout → Int → Option ((List Int) × Int)) (args : List V) (H : Heap) (K : V → Heap → Prop) : Prop :=
  aC args fun a0 r => aC r fun a1 r => aN r <| aRow 0 a0 <| aFn 70 a1 fun cs => aC cs fun p0 r => aC r fun p1 r => aN r <| aPtr 1 p0 <| aPtr 2 p1 <| aC H fun b3 r => aC r fun b1 r => aC r fun b2 r => aN r <| bRow 0 true b3 fun (ws : List Int) => bCells b1 fun U c1 => d_layout_Layout c1 fun l2 => bCells b2 fun U2 c2 => aC c2 fun d2_0 r => aInt d2_0 fun n => aN r <| Req (Nat.ble ws.length 1048576) (So (m_ (ws.length) ws l2 n) fun x => ∀ nd : List Pr, K (.tup [.row 3, .row 4, vi 0]) [.row 0 ws true, .cells U (e_layout_Layout l2), .cells U2 [vi (x.2)], .row 0 (x.1) false, .row 2 nd false])
def sp_do_law08_lives_1 (m_ : Nat → (List Int) → T_layout_Layout → Int → Option ((List Int) × Int)) : Spec := ⟨tr_do_law08_lives_1 m_, (true : Bool)⟩
noncomputable def cfgDo_law08_lives_1 (m_ : Nat → (List Int) → T_layout_Layout → Int → Option ((List Int) × Int)) : Cfg := cfgDo 70 (sp_law08_lives_1 m_) [(0, none), (7, none), (10, none), (31, none), (32, none), (33, none)]

theorem nf_do_law08_ChunkOnly_1 (m_ : Nat → (List Int) → T_layout_Layout → T_assartlaw08_Act → Option ((List Int))) (ws : List Int) (l2 : T_layout_Layout) (a : T_assartlaw08_Act) (U : TypeId) (U2 : TypeId) (K : V → Heap → Prop) : (exF (cfgDo_law08_ChunkOnly_1 m_) Try.f16 [.row 0, .fn 29 [.ptr 1 0, .ptr 2 0]] [.row 0 ws true, .cells U (e_layout_Layout l2), .cells U2 (e_assartlaw08_Act a)] K) = (
    Req (Decidable.decide (List.length ws ≤ 1048576)) ((∀ (y0 : Go.Value), (((ws = ws) ∧ (((1 ≤ 2) ∧ (So (m_ (List.length ws) ws l2 a) (fun (y1 : List Int) => (((y0 = y0) ∧ ((∀ (y2 : Int → Option Int), ((∀ (y3 : Nat), ((∀ (y4 : List Pr), ((∀ (y5 : List (List Int)), (((ViewOK ws y1 y2 y4 y5) → (Req (Nat.ble (List.length y5) 1048576) (Req (Decidable.decide (0 + List.length ws ≤ 1048576)) (Loop (cfgDo_law08_ChunkOnly_1 m_) (⟨54, 3⟩ : Cx) (at_ (bodyOf Try.f16) [1, 1, 1, 1, 1, 1, 0, 1, 0, 0]) (mkEnv [(0, .row 0), (7, .ptr 3 0), (10, .row 4), (31, .row 5), (32, vi ((↑(List.length (List.map prOf y5)) : Int))), (33, vi (0))]) [.row 0 (ws : List (Int)) Bool.true, .cells U (e_layout_Layout l2), .cells U2 (e_assartlaw08_Act a), .cells 0 [.row 0, .mp 6, .row 7], .row 0 (ws : List (Int)) Bool.false, .row 2 (List.map prOf y5 : List (Pr)) Bool.false, .map (y2) (y3), .row 2 (y4 : List (Pr)) Bool.false] (contK (cfgDo_law08_ChunkOnly_1 m_) (⟨54, 3⟩ : Cx) (bodyOf Try.f16) [1, 1, 1, 1, 1, 1, 0, 1, 0] (retK (cfgDo_law08_ChunkOnly_1 m_) Try.f16 3 K)))))))))))))))))))))))))) := by
  kernel_rfl

theorem nf_do_law08_ChunkOnly_1_r (m_ : Nat → (List Int) → T_layout_Layout → T_assartlaw08_Act → Option ((List Int))) (ws : List Int) (l2 : T_layout_Layout) (a : T_assartlaw08_Act) (U : TypeId) (U2 : TypeId) (x : (List Int)) (now_ : List Int) (ps_ : List Pr) (nd_ : List Pr) (mm_ : Int → Option Int) (mn_ : Nat) (len_ : Int) (j_ : Int) (K : V → Heap → Prop) (J1 : Env → Heap → Prop) : (ex (cfgDo_law08_ChunkOnly_1 m_) (⟨54, 3⟩ : Cx) (at_ (bodyOf Try.f16) [1, 1, 1, 1, 1, 1, 0, 1, 0, 0]) (mkEnv [(0, .row 0), (7, .ptr 3 0), (10, .row 4), (31, .row 5), (32, vi len_), (33, vi j_)]) [.row 0 ws true, .cells U (e_layout_Layout l2), .cells U2 (e_assartlaw08_Act a), .cells 0 [.row 0, .mp 6, .row 7], .row 0 now_ false, .row 2 ps_ false, .map mm_ mn_, .row 2 nd_ false] (roundK (cfgDo_law08_ChunkOnly_1 m_) (⟨54, 3⟩ : Cx) (at_ (bodyOf Try.f16) [1, 1, 1, 1, 1, 1, 0, 1, 0, 0]) (contK (cfgDo_law08_ChunkOnly_1 m_) (⟨54, 3⟩ : Cx) (bodyOf Try.f16) [1, 1, 1, 1, 1, 1, 0, 1, 0] (retK (cfgDo_law08_ChunkOnly_1 m_) Try.f16 3 K)) J1)) = (
    br (Decidable.decide (j_ < len_)) (Req (inR j_ (List.length ps_)) (Req (inR (offs j_ 0) (List.length ps_)) (br (Decidable.decide (Pr.Addr (List.getD ps_ (Int.toNat (offs j_ 0)) (Pr.mk 0 0)) ≥ (↑(List.length ws) : Int))) (K (.tup [.row 3, .row 4, vi (3)]) [.row 0 (ws : List (Int)) Bool.true, .cells U (e_layout_Layout l2), .cells U2 (e_assartlaw08_Act a), .row 0 ([] : List (Int)) Bool.false, .row 2 ([] : List (Pr)) Bool.false]) (Req (inR (Pr.Addr (List.getD ps_ (Int.toNat (offs j_ 0)) (Pr.mk 0 0))) (List.length now_)) (Req (inR (offs (Pr.Addr (List.getD ps_ (Int.toNat (offs j_ 0)) (Pr.mk 0 0))) 0) (List.length now_)) (J1 (mkEnv [(0, .row 0), (7, .ptr 3 0), (10, .row 4), (31, .row 5), (32, vi (len_)), (33, vi (IntKind.wrap IntKind.i64 (j_ + 1)))]) [.row 0 (ws : List (Int)) Bool.true, .cells U (e_layout_Layout l2), .cells U2 (e_assartlaw08_Act a), .cells 0 [.row 0, .mp 6, .row 7], .row 0 (List.set now_ (Int.toNat (offs (Pr.Addr (List.getD ps_ (Int.toNat (offs j_ 0)) (Pr.mk 0 0))) 0)) (Pr.Val (List.getD ps_ (Int.toNat (offs j_ 0)) (Pr.mk 0 0))) : List (Int)) Bool.false, .row 2 (ps_ : List (Pr)) Bool.false, .map (mm_) (mn_), .row 2 (nd_ : List (Pr)) Bool.false])))))) (K (.tup [.row 3, .row 4, vi (0)]) [.row 0 (ws : List (Int)) Bool.true, .cells U (e_layout_Layout l2), .cells U2 (e_assartlaw08_Act a), .row 0 (now_ : List (Int)) Bool.false, .row 2 (nd_ : List (Pr)) Bool.false])) := by
  kernel_rfl

theorem nf_do_law08_lives_1 (m_ : Nat → (List Int) → T_layout_Layout → Int → Option ((List Int) × Int)) (ws : List Int) (l2 : T_layout_Layout) (n : Int) (U : TypeId) (U2 : TypeId) (K : V → Heap → Prop) : (exF (cfgDo_law08_lives_1 m_) Try.f16 [.row 0, .fn 70 [.ptr 1 0, .ptr 2 0]] [.row 0 ws true, .cells U (e_layout_Layout l2), .cells U2 [vi n]] K) = (
    Req (Decidable.decide (List.length ws ≤ 1048576)) ((∀ (y0 : Go.Value), (((ws = ws) ∧ (((1 ≤ 2) ∧ (So (m_ (List.length ws) ws l2 n) (fun (y1 : List Int × Int) => (((y0 = y0) ∧ ((∀ (y2 : Int → Option Int), ((∀ (y3 : Nat), ((∀ (y4 : List Pr), ((∀ (y5 : List (List Int)), (((ViewOK ws (Prod.fst y1) y2 y4 y5) → (Req (Nat.ble (List.length y5) 1048576) (Req (Decidable.decide (0 + List.length ws ≤ 1048576)) (Loop (cfgDo_law08_lives_1 m_) (⟨54, 3⟩ : Cx) (at_ (bodyOf Try.f16) [1, 1, 1, 1, 1, 1, 0, 1, 0, 0]) (mkEnv [(0, .row 0), (7, .ptr 3 0), (10, .row 4), (31, .row 5), (32, vi ((↑(List.length (List.map prOf y5)) : Int))), (33, vi (0))]) [.row 0 (ws : List (Int)) Bool.true, .cells U (e_layout_Layout l2), .cells U2 [vi (Prod.snd y1)], .cells 0 [.row 0, .mp 6, .row 7], .row 0 (ws : List (Int)) Bool.false, .row 2 (List.map prOf y5 : List (Pr)) Bool.false, .map (y2) (y3), .row 2 (y4 : List (Pr)) Bool.false] (contK (cfgDo_law08_lives_1 m_) (⟨54, 3⟩ : Cx) (bodyOf Try.f16) [1, 1, 1, 1, 1, 1, 0, 1, 0] (retK (cfgDo_law08_lives_1 m_) Try.f16 3 K)))))))))))))))))))))))))) := by
  kernel_rfl

theorem nf_do_law08_lives_1_r (m_ : Nat → (List Int) → T_layout_Layout → Int → Option ((List Int) × Int)) (ws : List Int) (l2 : T_layout_Layout) (n : Int) (U : TypeId) (U2 : TypeId) (x : (List Int) × Int) (now_ : List Int) (ps_ : List Pr) (nd_ : List Pr) (mm_ : Int → Option Int) (mn_ : Nat) (len_ : Int) (j_ : Int) (K : V → Heap → Prop) (J1 : Env → Heap → Prop) : (ex (cfgDo_law08_lives_1 m_) (⟨54, 3⟩ : Cx) (at_ (bodyOf Try.f16) [1, 1, 1, 1, 1, 1, 0, 1, 0, 0]) (mkEnv [(0, .row 0), (7, .ptr 3 0), (10, .row 4), (31, .row 5), (32, vi len_), (33, vi j_)]) [.row 0 ws true, .cells U (e_layout_Layout l2), .cells U2 [vi (x.2)], .cells 0 [.row 0, .mp 6, .row 7], .row 0 now_ false, .row 2 ps_ false, .map mm_ mn_, .row 2 nd_ false] (roundK (cfgDo_law08_lives_1 m_) (⟨54, 3⟩ : Cx) (at_ (bodyOf Try.f16) [1, 1, 1, 1, 1, 1, 0, 1, 0, 0]) (contK (cfgDo_law08_lives_1 m_) (⟨54, 3⟩ : Cx) (bodyOf Try.f16) [1, 1, 1, 1, 1, 1, 0, 1, 0] (retK (cfgDo_law08_lives_1 m_) Try.f16 3 K)) J1)) = (
    br (Decidable.decide (j_ < len_)) (Req (inR j_ (List.length ps_)) (Req (inR (offs j_ 0) (List.length ps_)) (br (Decidable.decide (Pr.Addr (List.getD ps_ (Int.toNat (offs j_ 0)) (Pr.mk 0 0)) ≥ (↑(List.length ws) : Int))) (K (.tup [.row 3, .row 4, vi (3)]) [.row 0 (ws : List (Int)) Bool.true, .cells U (e_layout_Layout l2), .cells U2 [vi (Prod.snd x)], .row 0 ([] : List (Int)) Bool.false, .row 2 ([] : List (Pr)) Bool.false]) (Req (inR (Pr.Addr (List.getD ps_ (Int.toNat (offs j_ 0)) (Pr.mk 0 0))) (List.length now_)) (Req (inR (offs (Pr.Addr (List.getD ps_ (Int.toNat (offs j_ 0)) (Pr.mk 0 0))) 0) (List.length now_)) (J1 (mkEnv [(0, .row 0), (7, .ptr 3 0), (10, .row 4), (31, .row 5), (32, vi (len_)), (33, vi (IntKind.wrap IntKind.i64 (j_ + 1)))]) [.row 0 (ws : List (Int)) Bool.true, .cells U (e_layout_Layout l2), .cells U2 [vi (Prod.snd x)], .cells 0 [.row 0, .mp 6, .row 7], .row 0 (List.set now_ (Int.toNat (offs (Pr.Addr (List.getD ps_ (Int.toNat (offs j_ 0)) (Pr.mk 0 0))) 0)) (Pr.Val (List.getD ps_ (Int.toNat (offs j_ 0)) (Pr.mk 0 0))) : List (Int)) Bool.false, .row 2 (ps_ : List (Pr)) Bool.false, .map (mm_) (mn_), .row 2 (nd_ : List (Pr)) Bool.false])))))) (K (.tup [.row 3, .row 4, vi (0)]) [.row 0 (ws : List (Int)) Bool.true, .cells U (e_layout_Layout l2), .cells U2 [vi (Prod.snd x)], .row 0 (now_ : List (Int)) Bool.false, .row 2 (nd_ : List (Pr)) Bool.false])) := by
  kernel_rfl

attribute [local irreducible] Loop ex exF contK roundK retK at_ bodyOf mkEnv

theorem okdo_law08_ChunkOnly_1 {m_ : Nat → (List Int) → T_layout_Layout → T_assartlaw08_Act → Option ((List Int))} (hm : SpecOK Try.prog elTT 29 (sp_law08_ChunkOnly_1 m_)) : SpecOK Try.prog elTT 16 (sp_do_law08_ChunkOnly_1 m_) := by
  refine spec_of_exF (cfg := cfgDo_law08_ChunkOnly_1 m_) (cfg_ok rfl rfl rfl) (sigDo_ok hm) (fn := Try.f16) (by kernel_rfl) (by kernel_rfl) (by kernel_rfl) ?_
  intro args H K h
  change tr_do_law08_ChunkOnly_1 m_ args H K at h
  unfold tr_do_law08_ChunkOnly_1 at h
  replace h := aC_el h
  obtain ⟨a0, _, rfl, h⟩ := h
  replace h := aC_el h
  obtain ⟨a1, _, rfl, h⟩ := h
  replace h := aN_el h
  obtain ⟨rfl, h⟩ := h
  replace h := aRow_el h
  obtain ⟨rfl, h⟩ := h
  replace h := aFn_el h
  obtain ⟨cs, rfl, h⟩ := h
  replace h := aC_el h
  obtain ⟨p0, _, rfl, h⟩ := h
  replace h := aC_el h
  obtain ⟨p1, _, rfl, h⟩ := h
  replace h := aN_el h
  obtain ⟨rfl, h⟩ := h
  replace h := aPtr_el h
  obtain ⟨rfl, h⟩ := h
  replace h := aPtr_el h
  obtain ⟨rfl, h⟩ := h
  replace h := aC_el h
  obtain ⟨b3, _, rfl, h⟩ := h
  replace h := aC_el h
  obtain ⟨b1, _, rfl, h⟩ := h
  replace h := aC_el h
  obtain ⟨b2, _, rfl, h⟩ := h
  replace h := aN_el h
  obtain ⟨rfl, h⟩ := h
  replace h := bRow_el h
  obtain ⟨(ws : List Int), rfl, h⟩ := h
  replace h := bCells_el h
  obtain ⟨U, c1, rfl, h⟩ := h
  replace h := d_layout_Layout_el h
  obtain ⟨l2, rfl, h⟩ := h
  replace h := bCells_el h
  obtain ⟨U2, c2, rfl, h⟩ := h
  replace h := d_assartlaw08_Act_el h
  obtain ⟨a, rfl, h⟩ := h
  replace h := Req_el h
  obtain ⟨hsm, h⟩ := h
  have hsm := Nat.le_of_ble_eq_true hsm
  refine Eq.mpr (nf_do_law08_ChunkOnly_1 m_ ws l2 a U U2 K) (Req_intro (by simpa using hsm) fun y => ⟨rfl, by decide, ?_⟩)
  refine So_imp h fun x hk => ?_
  refine ⟨rfl, fun mm mn nd its hv => Req_intro (Nat.ble_eq_true_of_le (by have := view_its hv; omega)) (Req_intro (decide_eq_true (by omega)) ?_)⟩
  have hlen := view_its hv
  refine loop_ind (σ := Nat) (fun j => (mkEnv [(0, .row 0), (7, .ptr 3 0), (10, .row 4), (31, .row 5), (32, vi ((its.map prOf).length : Int)), (33, vi ((j : Nat) : Int))]))
    (fun j => [.row 0 ws true, .cells U (e_layout_Layout l2), .cells U2 (e_assartlaw08_Act a), .cells 0 [.row 0, .mp 6, .row 7], .row 0 (nowN ws its j) false, .row 2 (its.map prOf) false, .map mm mn, .row 2 nd false]) (fun j => j ≤ its.length) (fun j => its.length - j) ?_ 0 (Nat.zero_le _)
  intro j hj J hJ
  refine Eq.mpr (nf_do_law08_ChunkOnly_1_r m_ ws l2 a U U2 x (nowN ws its j) (its.map prOf) nd mm mn _ j K J) (br_intro (fun h1 => ?_) (fun h1 => ?_))
  · have h1 : j < its.length := by simpa using h1
    have h1' : j < (its.map prOf).length := by simpa using h1
    obtain ⟨p1, p2⟩ := pr_in hv h1
    have hnx := hJ (j + 1) h1 (by omega)
    simp only [offs_nat, inR_nat h1', Req_true, Int.toNat_natCast, wrap_succ (show j ≤ 4611686018427387904 by omega), prs_get h1]
    simp only [nowN] at hnx
    generalize prOf (its.getD j []) = p at *
    have hoff : offs p.Addr 0 = p.Addr := by
      have e : p.Addr = ((p.Addr.toNat : Nat) : Int) := by omega
      rw [e]; rfl
    have hin : inR p.Addr (nowN ws its j).length = true := by rw [nowN_len]; exact inR_int p1 p2
    refine br_false (decide_eq_false (by omega)) (Req_intro hin (Req_intro (by rw [hoff]; exact hin) ?_))
    rw [hoff]
    exact hnx
  · have h1 : j = its.length := by simp at h1; omega
    subst h1
    rw [nowN_all hv]
    exact hk nd

theorem okdo_law08_lives_1 {m_ : Nat → (List Int) → T_layout_Layout → Int → Option ((List Int) × Int)} (hm : SpecOK Try.prog elTT 70 (sp_law08_lives_1 m_)) : SpecOK Try.prog elTT 16 (sp_do_law08_lives_1 m_) := by
  refine spec_of_exF (cfg := cfgDo_law08_lives_1 m_) (cfg_ok rfl rfl rfl) (sigDo_ok hm) (fn := Try.f16) (by kernel_rfl) (by kernel_rfl) (by kernel_rfl) ?_
  intro args H K h
  change tr_do_law08_lives_1 m_ args H K at h
  unfold tr_do_law08_lives_1 at h
  replace h := aC_el h
  obtain ⟨a0, _, rfl, h⟩ := h
  replace h := aC_el h
  obtain ⟨a1, _, rfl, h⟩ := h
  replace h := aN_el h
  obtain ⟨rfl, h⟩ := h
  replace h := aRow_el h
  obtain ⟨rfl, h⟩ := h
  replace h := aFn_el h
  obtain ⟨cs, rfl, h⟩ := h
  replace h := aC_el h
  obtain ⟨p0, _, rfl, h⟩ := h
  replace h := aC_el h
  obtain ⟨p1, _, rfl, h⟩ := h
  replace h := aN_el h
  obtain ⟨rfl, h⟩ := h
  replace h := aPtr_el h
  obtain ⟨rfl, h⟩ := h
  replace h := aPtr_el h
  obtain ⟨rfl, h⟩ := h
  replace h := aC_el h
  obtain ⟨b3, _, rfl, h⟩ := h
  replace h := aC_el h
  obtain ⟨b1, _, rfl, h⟩ := h
  replace h := aC_el h
  obtain ⟨b2, _, rfl, h⟩ := h
  replace h := aN_el h
  obtain ⟨rfl, h⟩ := h
  replace h := bRow_el h
  obtain ⟨(ws : List Int), rfl, h⟩ := h
  replace h := bCells_el h
  obtain ⟨U, c1, rfl, h⟩ := h
  replace h := d_layout_Layout_el h
  obtain ⟨l2, rfl, h⟩ := h
  replace h := bCells_el h
  obtain ⟨U2, c2, rfl, h⟩ := h
  replace h := aC_el h
  obtain ⟨d2_0, _, rfl, h⟩ := h
  replace h := aInt_el h
  obtain ⟨n, rfl, h⟩ := h
  replace h := aN_el h
  obtain ⟨rfl, h⟩ := h
  replace h := Req_el h
  obtain ⟨hsm, h⟩ := h
  have hsm := Nat.le_of_ble_eq_true hsm
  refine Eq.mpr (nf_do_law08_lives_1 m_ ws l2 n U U2 K) (Req_intro (by simpa using hsm) fun y => ⟨rfl, by decide, ?_⟩)
  refine So_imp h fun x hk => ?_
  refine ⟨rfl, fun mm mn nd its hv => Req_intro (Nat.ble_eq_true_of_le (by have := view_its hv; omega)) (Req_intro (decide_eq_true (by omega)) ?_)⟩
  have hlen := view_its hv
  refine loop_ind (σ := Nat) (fun j => (mkEnv [(0, .row 0), (7, .ptr 3 0), (10, .row 4), (31, .row 5), (32, vi ((its.map prOf).length : Int)), (33, vi ((j : Nat) : Int))]))
    (fun j => [.row 0 ws true, .cells U (e_layout_Layout l2), .cells U2 [vi (x.2)], .cells 0 [.row 0, .mp 6, .row 7], .row 0 (nowN ws its j) false, .row 2 (its.map prOf) false, .map mm mn, .row 2 nd false]) (fun j => j ≤ its.length) (fun j => its.length - j) ?_ 0 (Nat.zero_le _)
  intro j hj J hJ
  refine Eq.mpr (nf_do_law08_lives_1_r m_ ws l2 n U U2 x (nowN ws its j) (its.map prOf) nd mm mn _ j K J) (br_intro (fun h1 => ?_) (fun h1 => ?_))
  · have h1 : j < its.length := by simpa using h1
    have h1' : j < (its.map prOf).length := by simpa using h1
    obtain ⟨p1, p2⟩ := pr_in hv h1
    have hnx := hJ (j + 1) h1 (by omega)
    simp only [offs_nat, inR_nat h1', Req_true, Int.toNat_natCast, wrap_succ (show j ≤ 4611686018427387904 by omega), prs_get h1]
    simp only [nowN] at hnx
    generalize prOf (its.getD j []) = p at *
    have hoff : offs p.Addr 0 = p.Addr := by
      have e : p.Addr = ((p.Addr.toNat : Nat) : Int) := by omega
      rw [e]; rfl
    have hin : inR p.Addr (nowN ws its j).length = true := by rw [nowN_len]; exact inR_int p1 p2
    refine br_false (decide_eq_false (by omega)) (Req_intro hin (Req_intro (by rw [hoff]; exact hin) ?_))
    rw [hoff]
    exact hnx
  · have h1 : j = its.length := by simp at h1; omega
    subst h1
    rw [nowN_all hv]
    exact hk nd

end Go.Rx
end

section
/- Contracts. -/
namespace Go.Rx
open Go.Proofs
set_option maxRecDepth 100000
set_option maxHeartbeats 4000000
/-! assart/assartlaw08.lives -/
def tr_law08_lives (m_ : Option (Bool)) (args : List V) (H : Heap) (K : V → Heap → Prop) : Prop :=
  aN args <| aN H <| So (m_ ) fun x => K (vb (x)) []
def sp_law08_lives (m_ : Option (Bool)) : Spec := ⟨tr_law08_lives m_, (true : Bool)⟩

/-! assart/assartlaw08.ChunkPlays -/
/-! assart/assartlaw08.ChunkCounted -/
/-! assart/assartlaw08.ChunkOnly -/
def tr_law08_ChunkOnly (m_ : T_api_Config → T_assartlaw08_Act → Option (Bool)) (args : List V) (H : Heap) (K : V → Heap → Prop) : Prop :=
  aC args fun a0 r => aC r fun a1 r => aN r <| aAgg a0 fun c0 => d_api_Config c0 fun c => aAgg a1 fun c1 => d_assartlaw08_Act c1 fun a => aN H <| So (m_ c a) fun x => K (vb (x)) []
def sp_law08_ChunkOnly (m_ : T_api_Config → T_assartlaw08_Act → Option (Bool)) : Spec := ⟨tr_law08_ChunkOnly m_, (true : Bool)⟩

noncomputable def cfg_law08_lives (m_law08_Begin : T_api_Config → Option (T_layout_Layout × T_assartref02_Layout × (List Int))) (m_layout_Layout_Config : T_layout_Layout → Option (T_api_Config)) (m_layout_Of : T_api_Config → Option (T_layout_Layout × Int)) (m_layout_Layout_Words : T_layout_Layout → Option (Int)) (m_law08_lives_1 : Nat → (List Int) → T_layout_Layout → Int → Option ((List Int) × Int)) (m_layout_Layout_Table : T_layout_Layout → Int → Option (Int)) : Cfg := { cfgB with
  sigs := (sigC 15 (sp_law08_Begin m_law08_Begin) (sigC 27 (sp_layout_Layout_Config m_layout_Layout_Config) (sigC 68 (sp_layout_Of m_layout_Of) (sigC 69 (sp_layout_Layout_Words m_layout_Layout_Words) (sigC 16 (sp_do_law08_lives_1 m_law08_lives_1) (sigC 31 (sp_layout_Layout_Table m_layout_Layout_Table) sigN)))))) }

noncomputable def cfg_law08_ChunkOnly (m_law08_Begin : T_api_Config → Option (T_layout_Layout × T_assartref02_Layout × (List Int))) (m_law08_ChunkOnly_1 : Nat → (List Int) → T_layout_Layout → T_assartlaw08_Act → Option ((List Int))) (m_layout_Layout_Chunks : T_layout_Layout → Option (Int)) (m_layout_Layout_Table : T_layout_Layout → Int → Option (Int)) (m_law01_Ints_Same : (List Int) → (List Int) → Option (Bool)) (m_law08_lives : Option (Bool)) : Cfg := { cfgB with
  sigs := (sigC 15 (sp_law08_Begin m_law08_Begin) (sigC 16 (sp_do_law08_ChunkOnly_1 m_law08_ChunkOnly_1) (sigC 30 (sp_layout_Layout_Chunks m_layout_Layout_Chunks) (sigC 31 (sp_layout_Layout_Table m_layout_Layout_Table) (sigC 20 (sp_law01_Ints_Same m_law01_Ints_Same) (sigC 14 (sp_law08_lives m_law08_lives) sigN)))))),
  keep := fun r => match r with | 3 => some [(3, none), (5, none), (7, some 0), (8, none)] | 10 => some [(5, none), (7, some 0), (9, some 0), (12, none)] | _ => none,
  plan := fun r => match r with | 12 => some ([0, 1, 2, 4, 5, 6, 3, 7, 8, 9, 10, 11], 26388279066640) | _ => none }

theorem nf_law08_lives (m_law08_Begin : T_api_Config → Option (T_layout_Layout × T_assartref02_Layout × (List Int))) (m_layout_Layout_Config : T_layout_Layout → Option (T_api_Config)) (m_layout_Of : T_api_Config → Option (T_layout_Layout × Int)) (m_layout_Layout_Words : T_layout_Layout → Option (Int)) (m_law08_lives_1 : Nat → (List Int) → T_layout_Layout → Int → Option ((List Int) × Int)) (m_layout_Layout_Table : T_layout_Layout → Int → Option (Int)) (K : V → Heap → Prop) : (exF (cfg_law08_lives m_law08_Begin m_layout_Layout_Config m_layout_Of m_layout_Layout_Words m_law08_lives_1 m_layout_Layout_Table) Try.f14 [] [] K) = (
    So (m_law08_Begin (T_api_Config.mk 0 0 4 0 0 0 0 0 0 0 0)) (fun (y0 : T_layout_Layout × T_assartref02_Layout × List Int) => (So (m_layout_Layout_Config (Prod.fst y0)) (fun (y1 : T_api_Config) => (So (m_layout_Of (T_api_Config.mk (T_api_Config.Workers y1) (T_api_Config.CPUs y1) 5 (T_api_Config.Stripes y1) (T_api_Config.Tries y1) (T_api_Config.Wait y1) (T_api_Config.Clock y1) (T_api_Config.Private y1) (T_api_Config.Cache y1) (T_api_Config.Bin y1) (T_api_Config.Batch y1))) (fun (y2 : T_layout_Layout × Int) => (So (m_layout_Layout_Words (Prod.fst y2)) (fun (y3 : Int) => (Req (Decidable.decide (0 ≤ y3 ∧ y3 ≤ y3 ∧ y3 ≤ 1048576)) (Req (Nat.ble (List.length (List.replicate (Int.toNat y3) (0 : Int))) (1048576 : Nat)) (So (m_law08_lives_1 (List.length (List.replicate (Int.toNat y3) (0 : Int))) (List.replicate (Int.toNat y3) (0 : Int)) (Prod.fst y2) (0 : Int)) (fun (y4 : List Int × Int) => ((∀ (y5 : List Pr), (br (Prod.snd y2 == 0) (br (Prod.snd y4 == 5) (br ((↑(List.length (Prod.fst y4)) : Int) == (↑(List.length (List.replicate (Int.toNat y3) (0 : Int))) : Int)) (So (m_layout_Layout_Table (Prod.fst y2) 1) (fun (y6 : Int) => (Req (inR y6 (List.length (Prod.fst y4))) (Req (inR (offs y6 0) (List.length (Prod.fst y4))) (K (vb (List.getD (Prod.fst y4) (Int.toNat (offs y6 0)) 0 == 1)) []))))) (K (vb (Bool.false)) [])) (K (vb (Bool.false)) [])) (K (vb (Bool.false)) [])))))))))))))))) := by
  kernel_rfl

theorem nf_law08_ChunkOnly_L2 (m_law08_Begin : T_api_Config → Option (T_layout_Layout × T_assartref02_Layout × (List Int))) (m_law08_ChunkOnly_1 : Nat → (List Int) → T_layout_Layout → T_assartlaw08_Act → Option ((List Int))) (m_layout_Layout_Chunks : T_layout_Layout → Option (Int)) (m_layout_Layout_Table : T_layout_Layout → Int → Option (Int)) (m_law01_Ints_Same : (List Int) → (List Int) → Option (Bool)) (m_law08_lives : Option (Bool)) (c : T_api_Config) (a : T_assartlaw08_Act) (iv : Int) (c2 : T_layout_Layout) (w : List Int) (w2 : List Int) (K : V → Heap → Prop) (J1 : Env → Heap → Prop) : (ex (cfg_law08_ChunkOnly m_law08_Begin m_law08_ChunkOnly_1 m_layout_Layout_Chunks m_layout_Layout_Table m_law01_Ints_Same m_law08_lives) (⟨72, 0⟩ : Cx) (at_ (bodyOf Try.f5) [1, 1, 1, 1, 1, 0, 1, 0, 0]) (mkEnv [(5, .ptr 0 0), (7, .row 1), (9, .row 2), (12, vi (iv))]) [.cells 28 (e_layout_Layout c2), .row 0 (w : List (Int)) Bool.false, .row 0 (w2 : List (Int)) Bool.false] (roundK (cfg_law08_ChunkOnly m_law08_Begin m_law08_ChunkOnly_1 m_layout_Layout_Chunks m_layout_Layout_Table m_law01_Ints_Same m_law08_lives) (⟨72, 0⟩ : Cx) (at_ (bodyOf Try.f5) [1, 1, 1, 1, 1, 0, 1, 0, 0]) (contK (cfg_law08_ChunkOnly m_law08_Begin m_law08_ChunkOnly_1 m_layout_Layout_Chunks m_layout_Layout_Table m_law01_Ints_Same m_law08_lives) (⟨72, 0⟩ : Cx) (bodyOf Try.f5) [1, 1, 1, 1, 1, 0, 1, 0] (retK (cfg_law08_ChunkOnly m_law08_Begin m_law08_ChunkOnly_1 m_layout_Layout_Chunks m_layout_Layout_Table m_law01_Ints_Same m_law08_lives) Try.f5 0 K)) J1)) = (
    So (m_layout_Layout_Chunks c2) (fun (y0 : Int) => (br (Decidable.decide (iv < y0)) (So (m_layout_Layout_Table c2 iv) (fun (y1 : Int) => (So (m_layout_Layout_Table c2 iv) (fun (y2 : Int) => (Req (inR y2 (List.length w)) (Req (inR (offs y2 0) (List.length w)) (Req (inR y1 (List.length w2)) (Req (inR (offs y1 0) (List.length w2)) (J1 (mkEnv [(5, .ptr 0 0), (7, .row 1), (9, .row 2), (12, vi (IntKind.wrap IntKind.i64 (iv + 1)))]) [.cells 28 (e_layout_Layout c2), .row 0 (w : List (Int)) Bool.false, .row 0 (List.set w2 (Int.toNat (offs y1 0)) (List.getD w (Int.toNat (offs y2 0)) 0) : List (Int)) Bool.false]))))))))) (So (m_law01_Ints_Same w2 w) (fun (y3 : Bool) => (br (y3) (So (m_law08_lives) (fun (y4 : Bool) => (K (vb (y4)) []))) (K (vb (Bool.false)) []))))))) := by
  kernel_rfl

theorem nf_law08_ChunkOnly_L1 (m_law08_Begin : T_api_Config → Option (T_layout_Layout × T_assartref02_Layout × (List Int))) (m_law08_ChunkOnly_1 : Nat → (List Int) → T_layout_Layout → T_assartlaw08_Act → Option ((List Int))) (m_layout_Layout_Chunks : T_layout_Layout → Option (Int)) (m_layout_Layout_Table : T_layout_Layout → Int → Option (Int)) (m_law01_Ints_Same : (List Int) → (List Int) → Option (Bool)) (m_law08_lives : Option (Bool)) (c : T_api_Config) (a : T_assartlaw08_Act) (iv : Int) (c2 : T_layout_Layout) (w : List Int) (K : V → Heap → Prop) (J1 : Env → Heap → Prop) : (ex (cfg_law08_ChunkOnly m_law08_Begin m_law08_ChunkOnly_1 m_layout_Layout_Chunks m_layout_Layout_Table m_law01_Ints_Same m_law08_lives) (⟨72, 0⟩ : Cx) (at_ (bodyOf Try.f5) [1, 1, 0, 1, 0, 0]) (mkEnv [(3, .ptr 0 0), (5, .ptr 1 0), (7, .row 2), (8, vi (iv))]) [.cells 41 (e_assartlaw08_Act a), .cells 28 (e_layout_Layout c2), .row 0 (w : List (Int)) Bool.false] (roundK (cfg_law08_ChunkOnly m_law08_Begin m_law08_ChunkOnly_1 m_layout_Layout_Chunks m_layout_Layout_Table m_law01_Ints_Same m_law08_lives) (⟨72, 0⟩ : Cx) (at_ (bodyOf Try.f5) [1, 1, 0, 1, 0, 0]) (contK (cfg_law08_ChunkOnly m_law08_Begin m_law08_ChunkOnly_1 m_layout_Layout_Chunks m_layout_Layout_Table m_law01_Ints_Same m_law08_lives) (⟨72, 0⟩ : Cx) (bodyOf Try.f5) [1, 1, 0, 1, 0] (retK (cfg_law08_ChunkOnly m_law08_Begin m_law08_ChunkOnly_1 m_layout_Layout_Chunks m_layout_Layout_Table m_law01_Ints_Same m_law08_lives) Try.f5 0 K)) J1)) = (
    br (Decidable.decide (iv < (↑(List.length w) : Int))) (Req (inR iv (List.length w)) (Req (inR (offs iv 0) (List.length w)) (J1 (mkEnv [(3, .ptr 0 0), (5, .ptr 1 0), (7, .row 2), (8, vi (IntKind.wrap IntKind.i64 (iv + 1)))]) [.cells 41 (e_assartlaw08_Act a), .cells 28 (e_layout_Layout c2), .row 0 (List.set w (Int.toNat (offs iv 0)) (IntKind.wrap IntKind.i64 (Int.tmod iv 2 + Int.tmod iv 3)) : List (Int)) Bool.false]))) (Req (Nat.ble (List.length w) 1048576) (So (m_law08_ChunkOnly_1 (List.length w) w c2 a) (fun (y0 : List Int) => ((∀ (y1 : List Pr), (br ((↑(List.length y0) : Int) != (↑(List.length w) : Int)) (K (vb (Bool.false)) []) (Loop (cfg_law08_ChunkOnly m_law08_Begin m_law08_ChunkOnly_1 m_layout_Layout_Chunks m_layout_Layout_Table m_law01_Ints_Same m_law08_lives) (⟨72, 0⟩ : Cx) (at_ (bodyOf Try.f5) [1, 1, 1, 1, 1, 0, 1, 0, 0]) (mkEnv [(5, .ptr 0 0), (7, .row 1), (9, .row 2), (12, vi (0))]) [.cells 28 (e_layout_Layout c2), .row 0 (w : List (Int)) Bool.false, .row 0 (y0 : List (Int)) Bool.false] (contK (cfg_law08_ChunkOnly m_law08_Begin m_law08_ChunkOnly_1 m_layout_Layout_Chunks m_layout_Layout_Table m_law01_Ints_Same m_law08_lives) (⟨72, 0⟩ : Cx) (bodyOf Try.f5) [1, 1, 1, 1, 1, 0, 1, 0] (retK (cfg_law08_ChunkOnly m_law08_Begin m_law08_ChunkOnly_1 m_layout_Layout_Chunks m_layout_Layout_Table m_law01_Ints_Same m_law08_lives) Try.f5 0 K)))))))))) := by
  kernel_rfl

theorem nf_law08_ChunkOnly (m_law08_Begin : T_api_Config → Option (T_layout_Layout × T_assartref02_Layout × (List Int))) (m_law08_ChunkOnly_1 : Nat → (List Int) → T_layout_Layout → T_assartlaw08_Act → Option ((List Int))) (m_layout_Layout_Chunks : T_layout_Layout → Option (Int)) (m_layout_Layout_Table : T_layout_Layout → Int → Option (Int)) (m_law01_Ints_Same : (List Int) → (List Int) → Option (Bool)) (m_law08_lives : Option (Bool)) (c : T_api_Config) (a : T_assartlaw08_Act) (K : V → Heap → Prop) : (exF (cfg_law08_ChunkOnly m_law08_Begin m_law08_ChunkOnly_1 m_layout_Layout_Chunks m_layout_Layout_Table m_law01_Ints_Same m_law08_lives) Try.f5 [.agg (e_api_Config c), .agg (e_assartlaw08_Act a)] [] K) = (
    So (m_law08_Begin c) (fun (y0 : T_layout_Layout × T_assartref02_Layout × List Int) => (Loop (cfg_law08_ChunkOnly m_law08_Begin m_law08_ChunkOnly_1 m_layout_Layout_Chunks m_layout_Layout_Table m_law01_Ints_Same m_law08_lives) (⟨72, 0⟩ : Cx) (at_ (bodyOf Try.f5) [1, 1, 0, 1, 0, 0]) (mkEnv [(3, .ptr 0 0), (5, .ptr 1 0), (7, .row 2), (8, vi (0))]) [.cells 41 (e_assartlaw08_Act a), .cells 28 (e_layout_Layout (Prod.fst y0)), .row 0 (Prod.snd (Prod.snd y0) : List (Int)) Bool.false] (contK (cfg_law08_ChunkOnly m_law08_Begin m_law08_ChunkOnly_1 m_layout_Layout_Chunks m_layout_Layout_Table m_law01_Ints_Same m_law08_lives) (⟨72, 0⟩ : Cx) (bodyOf Try.f5) [1, 1, 0, 1, 0] (retK (cfg_law08_ChunkOnly m_law08_Begin m_law08_ChunkOnly_1 m_layout_Layout_Chunks m_layout_Layout_Table m_law01_Ints_Same m_law08_lives) Try.f5 0 K))))) := by
  kernel_rfl

noncomputable def m_law08_lives  : Option (Bool) :=
  ((m_law08_Begin (T_api_Config.mk 0 0 4 0 0 0 0 0 0 0 0)).bind fun y0 => ((m_layout_Layout_Config (Prod.fst y0)).bind fun y1 => ((m_layout_Of (T_api_Config.mk (T_api_Config.Workers y1) (T_api_Config.CPUs y1) 5 (T_api_Config.Stripes y1) (T_api_Config.Tries y1) (T_api_Config.Wait y1) (T_api_Config.Clock y1) (T_api_Config.Private y1) (T_api_Config.Cache y1) (T_api_Config.Bin y1) (T_api_Config.Batch y1))).bind fun y2 => ((m_layout_Layout_Words (Prod.fst y2)).bind fun y3 => (bif (Decidable.decide (0 ≤ y3 ∧ y3 ≤ y3 ∧ y3 ≤ 1048576)) then (bif (Nat.ble (List.length (List.replicate (Int.toNat y3) (0 : Int))) (1048576 : Nat)) then ((m_law08_lives_1 (List.length (List.replicate (Int.toNat y3) (0 : Int))) (List.replicate (Int.toNat y3) (0 : Int)) (Prod.fst y2) (0 : Int)).bind fun y4 => (bif (Prod.snd y2 == 0) then (bif (Prod.snd y4 == 5) then (bif ((↑(List.length (Prod.fst y4)) : Int) == (↑(List.length (List.replicate (Int.toNat y3) (0 : Int))) : Int)) then ((m_layout_Layout_Table (Prod.fst y2) 1).bind fun y6 => (bif (inR y6 (List.length (Prod.fst y4))) then (bif (inR (offs y6 0) (List.length (Prod.fst y4))) then some ((List.getD (Prod.fst y4) (Int.toNat (offs y6 0)) 0 == 1)) else none) else none)) else some ((Bool.false))) else some ((Bool.false))) else some ((Bool.false)))) else none) else none)))))

noncomputable def sb_law08_ChunkOnly_L2 (c2 : T_layout_Layout) (w : List Int) (iv : Int) (w2 : List Int) : Option ((Int × (List Int)) ⊕ (Bool)) :=
  ((m_layout_Layout_Chunks c2).bind fun y0 => (bif (Decidable.decide (iv < y0)) then ((m_layout_Layout_Table c2 iv).bind fun y1 => ((m_layout_Layout_Table c2 iv).bind fun y2 => (bif (inR y2 (List.length w)) then (bif (inR (offs y2 0) (List.length w)) then (bif (inR y1 (List.length w2)) then (bif (inR (offs y1 0) (List.length w2)) then some (.inl ((IntKind.wrap IntKind.i64 (iv + 1)), (List.set w2 (Int.toNat (offs y1 0)) (List.getD w (Int.toNat (offs y2 0)) 0)))) else none) else none) else none) else none))) else ((m_law01_Ints_Same w2 w).bind fun y3 => (bif (y3) then ((m_law08_lives).bind fun y4 => some (.inr ((y4)))) else some (.inr ((Bool.false)))))))

noncomputable def lp_law08_ChunkOnly_L2 (c2 : T_layout_Layout) (w : List Int) (s : Int × (List Int)) : Option (Bool) :=
  loopO (fun s => sb_law08_ChunkOnly_L2 c2 w s.1 s.2) s

noncomputable def sb_law08_ChunkOnly_L1 (a : T_assartlaw08_Act) (c2 : T_layout_Layout) (iv : Int) (w : List Int) : Option ((Int × (List Int)) ⊕ (Bool)) :=
  (bif (Decidable.decide (iv < (↑(List.length w) : Int))) then (bif (inR iv (List.length w)) then (bif (inR (offs iv 0) (List.length w)) then some (.inl ((IntKind.wrap IntKind.i64 (iv + 1)), (List.set w (Int.toNat (offs iv 0)) (IntKind.wrap IntKind.i64 (Int.tmod iv 2 + Int.tmod iv 3))))) else none) else none) else (bif (Nat.ble (List.length w) 1048576) then ((m_law08_ChunkOnly_1 (List.length w) w c2 a).bind fun y0 => (bif ((↑(List.length y0) : Int) != (↑(List.length w) : Int)) then some (.inr ((Bool.false))) else ((lp_law08_ChunkOnly_L2 (c2) (w) ((0), (y0))).bind fun z => some (.inr z)))) else none))

noncomputable def lp_law08_ChunkOnly_L1 (a : T_assartlaw08_Act) (c2 : T_layout_Layout) (s : Int × (List Int)) : Option (Bool) :=
  loopO (fun s => sb_law08_ChunkOnly_L1 a c2 s.1 s.2) s

noncomputable def m_law08_ChunkOnly (c : T_api_Config) (a : T_assartlaw08_Act) : Option (Bool) :=
  ((m_law08_Begin c).bind fun y0 => (lp_law08_ChunkOnly_L1 a (Prod.fst y0) ((0), (Prod.snd (Prod.snd y0)))))

attribute [local irreducible] Loop ex exF contK roundK retK at_ bodyOf mkEnv
theorem ok_law08_lives : SpecOK Try.prog elTT 14 (sp_law08_lives m_law08_lives) := by
  refine spec_of_exF (cfg := (cfg_law08_lives m_law08_Begin m_layout_Layout_Config m_layout_Of m_layout_Layout_Words m_law08_lives_1 m_layout_Layout_Table)) (cfg_ok rfl rfl rfl) (sig_cons ok_law08_Begin (sig_cons ok_layout_Layout_Config (sig_cons ok_layout_Of (sig_cons ok_layout_Layout_Words (sig_cons (okdo_law08_lives_1 ok_law08_lives_1) (sig_cons ok_layout_Layout_Table sig_nil)))))) (fn := Try.f14) (by kernel_rfl) (by kernel_rfl) (by kernel_rfl) ?_
  intro args H K h
  change tr_law08_lives m_law08_lives args H K at h
  unfold tr_law08_lives at h
  replace h := aN_el h
  obtain ⟨rfl, h⟩ := h
  replace h := aN_el h
  obtain ⟨rfl, h⟩ := h
  refine Eq.mpr (nf_law08_lives m_law08_Begin m_layout_Layout_Config m_layout_Of m_layout_Layout_Words m_law08_lives_1 m_layout_Layout_Table  K) ?_
  unfold m_law08_lives at h
  revert h
  exact bind_So fun y0 => bind_So fun y1 => bind_So fun y2 => bind_So fun y3 => req_So (req_So (bind_So fun y4 => all_So fun y5 => br_So (br_So (br_So (bind_So fun y6 => req_So (req_So (fun h => h))) (fun h => h)) (fun h => h)) (fun h => h)))

theorem lpok_law08_ChunkOnly_L2 (c : T_api_Config) (a : T_assartlaw08_Act) (iv : Int) (c2 : T_layout_Layout) (w : List Int) (w2 : List Int) (K : V → Heap → Prop) : So (lp_law08_ChunkOnly_L2 (c2) (w) (iv, w2)) (fun (x : Bool) => K (vb (x)) []) → Loop (cfg_law08_ChunkOnly m_law08_Begin m_law08_ChunkOnly_1 m_layout_Layout_Chunks m_layout_Layout_Table m_law01_Ints_Same m_law08_lives) (⟨72, 0⟩ : Cx) (at_ (bodyOf Try.f5) [1, 1, 1, 1, 1, 0, 1, 0, 0]) (mkEnv [(5, .ptr 0 0), (7, .row 1), (9, .row 2), (12, vi (iv))]) [.cells 28 (e_layout_Layout c2), .row 0 (w : List (Int)) Bool.false, .row 0 (w2 : List (Int)) Bool.false] (contK (cfg_law08_ChunkOnly m_law08_Begin m_law08_ChunkOnly_1 m_layout_Layout_Chunks m_layout_Layout_Table m_law01_Ints_Same m_law08_lives) (⟨72, 0⟩ : Cx) (bodyOf Try.f5) [1, 1, 1, 1, 1, 0, 1, 0] (retK (cfg_law08_ChunkOnly m_law08_Begin m_law08_ChunkOnly_1 m_layout_Layout_Chunks m_layout_Layout_Table m_law01_Ints_Same m_law08_lives) Try.f5 0 K)) := by
  refine loopK_So (fun (s_ : Int × (List Int)) => (mkEnv [(5, .ptr 0 0), (7, .row 1), (9, .row 2), (12, vi ((s_.1)))])) (fun (s_ : Int × (List Int)) => [.cells 28 (e_layout_Layout c2), .row 0 (w : List (Int)) Bool.false, .row 0 ((s_.2) : List (Int)) Bool.false]) (fun (x : Bool) => K (vb (x)) []) ?_ (iv, w2)
  intro s_ J1 h
  clear iv
  clear w2
  obtain ⟨iv, w2⟩ := s_
  refine Eq.mpr (nf_law08_ChunkOnly_L2 m_law08_Begin m_law08_ChunkOnly_1 m_layout_Layout_Chunks m_layout_Layout_Table m_law01_Ints_Same m_law08_lives c a iv c2 w w2 K J1) ?_
  have h : So (sb_law08_ChunkOnly_L2 (c2) (w) iv w2) _ := h
  unfold sb_law08_ChunkOnly_L2 at h
  revert h
  exact bind_So fun y0 => br_So (bind_So fun y1 => bind_So fun y2 => req_So (req_So (req_So (req_So (fun h => h))))) (bind_So fun y3 => br_So (bind_So fun y4 => fun h => h) (fun h => h))

theorem lpok_law08_ChunkOnly_L1 (c : T_api_Config) (a : T_assartlaw08_Act) (iv : Int) (c2 : T_layout_Layout) (w : List Int) (K : V → Heap → Prop) : So (lp_law08_ChunkOnly_L1 (a) (c2) (iv, w)) (fun (x : Bool) => K (vb (x)) []) → Loop (cfg_law08_ChunkOnly m_law08_Begin m_law08_ChunkOnly_1 m_layout_Layout_Chunks m_layout_Layout_Table m_law01_Ints_Same m_law08_lives) (⟨72, 0⟩ : Cx) (at_ (bodyOf Try.f5) [1, 1, 0, 1, 0, 0]) (mkEnv [(3, .ptr 0 0), (5, .ptr 1 0), (7, .row 2), (8, vi (iv))]) [.cells 41 (e_assartlaw08_Act a), .cells 28 (e_layout_Layout c2), .row 0 (w : List (Int)) Bool.false] (contK (cfg_law08_ChunkOnly m_law08_Begin m_law08_ChunkOnly_1 m_layout_Layout_Chunks m_layout_Layout_Table m_law01_Ints_Same m_law08_lives) (⟨72, 0⟩ : Cx) (bodyOf Try.f5) [1, 1, 0, 1, 0] (retK (cfg_law08_ChunkOnly m_law08_Begin m_law08_ChunkOnly_1 m_layout_Layout_Chunks m_layout_Layout_Table m_law01_Ints_Same m_law08_lives) Try.f5 0 K)) := by
  refine loopK_So (fun (s_ : Int × (List Int)) => (mkEnv [(3, .ptr 0 0), (5, .ptr 1 0), (7, .row 2), (8, vi ((s_.1)))])) (fun (s_ : Int × (List Int)) => [.cells 41 (e_assartlaw08_Act a), .cells 28 (e_layout_Layout c2), .row 0 ((s_.2) : List (Int)) Bool.false]) (fun (x : Bool) => K (vb (x)) []) ?_ (iv, w)
  intro s_ J1 h
  clear iv
  clear w
  obtain ⟨iv, w⟩ := s_
  refine Eq.mpr (nf_law08_ChunkOnly_L1 m_law08_Begin m_law08_ChunkOnly_1 m_layout_Layout_Chunks m_layout_Layout_Table m_law01_Ints_Same m_law08_lives c a iv c2 w K J1) ?_
  have h : So (sb_law08_ChunkOnly_L1 (a) (c2) iv w) _ := h
  unfold sb_law08_ChunkOnly_L1 at h
  revert h
  exact br_So (req_So (req_So (fun h => h))) (req_So (bind_So fun y0 => all_So fun y1 => br_So (fun h => h) (mapK_So (lpok_law08_ChunkOnly_L2 c a (0) (c2) (w) (y0) K))))

theorem ok_law08_ChunkOnly : SpecOK Try.prog elTT 5 (sp_law08_ChunkOnly m_law08_ChunkOnly) := by
  refine spec_of_exF (cfg := (cfg_law08_ChunkOnly m_law08_Begin m_law08_ChunkOnly_1 m_layout_Layout_Chunks m_layout_Layout_Table m_law01_Ints_Same m_law08_lives)) (cfg_ok rfl rfl rfl) (sig_cons ok_law08_Begin (sig_cons (okdo_law08_ChunkOnly_1 ok_law08_ChunkOnly_1) (sig_cons ok_layout_Layout_Chunks (sig_cons ok_layout_Layout_Table (sig_cons ok_law01_Ints_Same (sig_cons ok_law08_lives sig_nil)))))) (fn := Try.f5) (by kernel_rfl) (by kernel_rfl) (by kernel_rfl) ?_
  intro args H K h
  change tr_law08_ChunkOnly m_law08_ChunkOnly args H K at h
  unfold tr_law08_ChunkOnly at h
  replace h := aC_el h
  obtain ⟨a0, _, rfl, h⟩ := h
  replace h := aC_el h
  obtain ⟨a1, _, rfl, h⟩ := h
  replace h := aN_el h
  obtain ⟨rfl, h⟩ := h
  replace h := aAgg_el h
  obtain ⟨c0, rfl, h⟩ := h
  replace h := d_api_Config_el h
  obtain ⟨c, rfl, h⟩ := h
  replace h := aAgg_el h
  obtain ⟨c1, rfl, h⟩ := h
  replace h := d_assartlaw08_Act_el h
  obtain ⟨a, rfl, h⟩ := h
  replace h := aN_el h
  obtain ⟨rfl, h⟩ := h
  refine Eq.mpr (nf_law08_ChunkOnly m_law08_Begin m_law08_ChunkOnly_1 m_layout_Layout_Chunks m_layout_Layout_Table m_law01_Ints_Same m_law08_lives c a K) ?_
  unfold m_law08_ChunkOnly at h
  revert h
  exact bind_So fun y0 => lpok_law08_ChunkOnly_L1 c a (0) (Prod.fst y0) (Prod.snd (Prod.snd y0)) K

end Go.Rx
end

section
/- The laws of chapter 8, plainly. -/
namespace Go.Rx
open Go.Proofs

/-- What a step tells, and the words then. -/
def stepR (cur : List Int) (pg tb : Int) (a : T_assartlaw08_Act) : Int × List Int :=
  if a.Kind = 0 then ((bif turnB cur pg tb a.K 1 then 1 else 0), turnU cur pg tb a.K 1)
  else if a.Kind = 1 then ((bif turnB cur pg tb a.K 0 then 1 else 0), turnU cur pg tb a.K 0)
  else if a.Kind = 2 then ((bif isB cur pg tb a.K 1 then 1 else 0), cur)
  else if a.Kind = 3 then ((bif coversM cur pg tb a.K a.N then 1 else 0), cur)
  else if a.Kind = 4 then ensM cur pg tb a.K a.N
  else (countM cur pg tb, cur)

theorem done_eq {L : T_layout_Layout} {nw : Nat} {cur : List Int} (v : VOK L nw cur) {a : T_assartlaw08_Act} (ha : I64 a.K) : m_law08_done nw cur L a = some (stepR cur L.c.Pages L.at_0 a) := by
  unfold m_law08_done stepR
  simp only [Map_eq v, Unmap_eq v, Mapped_eq v, Covers_eq v ha, Ensure_eq v ha, cCount_eq v, Option.bind_some]
  by_cases h0 : a.Kind = 0
  · simp only [h0, beq_self_eq_true, cond_true, if_true]
    cases turnB cur L.c.Pages L.at_0 a.K 1 <;> rfl
  by_cases h1 : a.Kind = 1
  · have e : (a.Kind == 0) = false := by simp [h0]
    rw [e, cond_false, if_neg h0, if_pos h1, h1]
    cases turnB cur L.c.Pages L.at_0 a.K 0 <;> rfl
  by_cases h2 : a.Kind = 2
  · have e : (a.Kind == 0) = false := by simp [h0]
    have e1 : (a.Kind == 1) = false := by simp [h1]
    rw [e, cond_false, e1, cond_false, if_neg h0, if_neg h1, if_pos h2, h2]
    cases isB cur L.c.Pages L.at_0 a.K 1 <;> rfl
  by_cases h3 : a.Kind = 3
  · have e : (a.Kind == 0) = false := by simp [h0]
    have e1 : (a.Kind == 1) = false := by simp [h1]
    have e2 : (a.Kind == 2) = false := by simp [h2]
    rw [e, cond_false, e1, cond_false, e2, cond_false, if_neg h0, if_neg h1, if_neg h2, if_pos h3, h3]
    cases coversM cur L.c.Pages L.at_0 a.K a.N <;> rfl
  have e : (a.Kind == 0) = false := by simp [h0]
  have e1 : (a.Kind == 1) = false := by simp [h1]
  have e2 : (a.Kind == 2) = false := by simp [h2]
  have e3 : (a.Kind == 3) = false := by simp [h3]
  rw [e, cond_false, e1, cond_false, e2, cond_false, e3, cond_false, if_neg h0, if_neg h1, if_neg h2, if_neg h3]
  by_cases h4 : a.Kind = 4
  · rw [if_pos h4, h4]; rfl
  · have e4 : (a.Kind == 4) = false := by simp [h4]
    rw [e4, cond_false, if_neg h4]

theorem stepR_len (cur : List Int) (pg tb : Int) (a : T_assartlaw08_Act) : (stepR cur pg tb a).2.length = cur.length := by
  unfold stepR ensM
  repeat' split
  all_goals simp only [turnU_len, ensG_len]

theorem lives08_eq : m_law08_lives = some true := by
  unfold m_law08_lives
  obtain ⟨d, hR, hB⟩ := Begin_eq (T_api_Config.mk 0 0 4 0 0 0 0 0 0 0 0)
  rw [hB, Option.bind_some, Config_eq, Option.bind_some, Of_eq]
  have hR' : RightC (T_api_Config.mk d.Workers d.CPUs 5 d.Stripes d.Tries d.Wait d.Clock d.Private d.Cache d.Bin d.Batch) :=
    ⟨hR.workers, hR.cpus, by simp only; omega, hR.stripes, hR.tries, hR.wait, hR.clock, hR.private_, hR.cache, hR.bin, hR.batch⟩
  have e0 : cOf (layC d) = d := rfl
  simp only [e0]
  rw [if_pos hR', Option.bind_some, Words_eq, Option.bind_some]
  have hL := layC_ok hR'
  have hP : (layC (T_api_Config.mk d.Workers d.CPUs 5 d.Stripes d.Tries d.Wait d.Clock d.Private d.Cache d.Bin d.Batch)).c.Pages = 5 := rfl
  simp only
  generalize layC (T_api_Config.mk d.Workers d.CPUs 5 d.Stripes d.Tries d.Wait d.Clock d.Private d.Cache d.Bin d.Batch) = L at *
  have hb := hL.big; have h11 := hL.a11
  have v := rep_VOK hL
  have hlen : (List.replicate L.at_11.toNat (0 : Int)).length = L.at_11.toNat := by simp
  rw [decide_eq_true (by omega), cond_true, Nat.ble_eq_true_of_le (by rw [hlen]; omega), cond_true]
  unfold m_law08_lives_1
  rw [Ensure_eq v (by omega), Option.bind_some, Option.bind_some]
  have ht := v.tab
  have htb := hL.a0; have hst := hL.stripes
  generalize hw : List.replicate L.at_11.toNat (0 : Int) = w at *
  have hw0 : ∀ j : Nat, w.getD j 0 = 0 := fun j => by rw [← hw]; simp [List.getD, List.getElem?_replicate]; split <;> rfl
  rw [hP]
  have hk : ensK 5 3 2 = 2 := by decide
  have ht0 : turnB w 5 L.at_0 0 1 = true := by unfold turnB; rw [hw0]; decide
  have hu0 : turnU w 5 L.at_0 0 1 = w.set L.at_0.toNat 1 := by unfold turnU; rw [ht0]; simp
  have ht1 : turnB (w.set L.at_0.toNat 1) 5 L.at_0 1 1 = true := by
    unfold turnB
    rw [List.getD, List.getElem?_set_ne (by omega)]
    have := hw0 (L.at_0 + 1).toNat
    rw [List.getD] at this
    rw [this]; decide
  have hu1 : turnU (w.set L.at_0.toNat 1) 5 L.at_0 1 1 = (w.set L.at_0.toNat 1).set (L.at_0 + 1).toNat 1 := by unfold turnU; rw [ht1]; simp
  have hE : ensM w 5 L.at_0 3 2 = (5, (w.set L.at_0.toNat 1).set (L.at_0 + 1).toNat 1) := by
    unfold ensM
    rw [hk]
    have e3 : (3 : Int) / 4 = 0 := by decide
    simp only [e3, ensG]
    simp only [Int.natCast_zero, Int.natCast_one, Int.add_zero, Int.zero_add, ht0, hu0, ht1, hu1, cond_true]
    have : pagesN 5 0 = 4 := by decide
    have h2 : pagesN 5 1 = 1 := by decide
    rw [this, h2]; rfl
  rw [hE]
  have hT : lTab L 1 = L.at_0 + 1 := by unfold lTab; rw [hP, if_pos (by decide)]
  have hin : inR (L.at_0 + 1) ((w.set L.at_0.toNat 1).set (L.at_0 + 1).toNat 1).length = true := inR_int (by omega) (by simp; omega)
  have ho : offs (L.at_0 + 1) 0 = L.at_0 + 1 := by
    have e : L.at_0 + 1 = (((L.at_0 + 1).toNat : Nat) : Int) := by omega
    rw [e]; rfl
  have hg : ((w.set L.at_0.toNat 1).set (L.at_0 + 1).toNat 1).getD (L.at_0 + 1).toNat 0 = 1 := by
    rw [List.getD, List.getElem?_set_self (by simp; omega)]; rfl
  simp only [beq_self_eq_true, cond_true, List.length_set, Table_eq hL, hT, Option.bind_some]
  simp only [List.length_set] at hin
  rw [hin, cond_true, ho, hin, cond_true, hg]; rfl

end Go.Rx
end

section
/- Lists of pages, plainly: what the words of one list are, and what linking and unlinking does to them. -/
namespace Go.Rx

/-- A word. -/
def wd (w : List Int) (a : Int) : Int := w.getD a.toNat 0
/-- What leads to a list's i-th page, and what leads back from it. -/
def nxV (xs : List Int) (i : Nat) : Int := xs.getD i (-1) + 1
def pvV (xs : List Int) (i : Nat) : Int := (-1 :: xs).getD i (-1) + 1
theorem getD_mem {xs : List Int} {i : Nat} (h : i < xs.length) : xs.getD i 0 ∈ xs := by
  have : xs.getD i 0 = xs[i] := by simp [List.getD, h]
  rw [this]; exact List.getElem_mem h
theorem wd_set {w : List Int} {a b x : Int} (ha : 0 ≤ a ∧ a < w.length) (hb : 0 ≤ b) : wd (w.set a.toNat x) b = if b = a then x else wd w b := by
  unfold wd
  by_cases e : b = a
  · rw [if_pos e, e, List.getD, List.getElem?_set_self (by omega)]; rfl
  · rw [if_neg e, List.getD, List.getD, List.getElem?_set_ne (by omega)]
theorem wd_ext {u w : List Int} (hl : u.length = w.length) (h : ∀ b : Int, 0 ≤ b → wd u b = wd w b) : u = w := by
  refine List.ext_getElem hl (fun i h1 h2 => ?_)
  have := h i (by omega)
  simpa [wd, List.getD, h1, h2] using this

/-- The words of one list: its head stands at `h`, its pages are `xs`. -/
structure Lst (nb pg : Int) (w : List Int) (h : Int) (xs : List Int) : Prop where
  head : wd w h = nxV xs 0
  inn : ∀ x ∈ xs, 0 ≤ x ∧ x < pg
  next : ∀ i, i < xs.length → wd w (nb + xs.getD i 0) = nxV xs (i + 1)
  prev : ∀ i, i < xs.length → wd w (nb + pg + xs.getD i 0) = pvV xs i
  nd : xs.Nodup

/-- No word but the head and those of the pages `ys` differs. -/
structure Off (nb pg : Int) (w u : List Int) (h : Int) (ys : List Int) : Prop where
  len : u.length = w.length
  off : ∀ b : Int, 0 ≤ b → b ≠ h → (∀ y ∈ ys, b ≠ nb + y ∧ b ≠ nb + pg + y) → wd u b = wd w b

/-- Where all is in the words. -/
structure Geo (nb pg : Int) (n : Nat) (h : Int) : Prop where
  base : 1 ≤ nb
  pages : 1 ≤ pg ∧ pg ≤ 256
  top : nb + 2 * pg ≤ h ∧ h < n

theorem Lst.len {nb pg h : Int} {w xs : List Int} (l : Lst nb pg w h xs) (hp : 0 ≤ pg) : (xs.length : Int) ≤ pg := by
  have := nodupI_len (N := pg.toNat) l.nd (fun x hx => by have := l.inn x hx; omega)
  omega

/-- A list whose words do not differ is still there. -/
theorem Lst.keep {nb pg h k : Int} {w u xs ys : List Int} (hnb : 1 ≤ nb) (hpg : 0 ≤ pg) (l : Lst nb pg w k xs) (o : Off nb pg w u h ys) (hy : ∀ y ∈ ys, 0 ≤ y ∧ y < pg) (hk : nb + 2 * pg ≤ k) (hne : k ≠ h) (hh : nb + 2 * pg ≤ h) (hd : ∀ x ∈ xs, x ∉ ys) : Lst nb pg u k xs := by
  refine ⟨?_, l.inn, fun i hi => ?_, fun i hi => ?_, l.nd⟩
  · rw [o.off k (by omega) hne (fun y m => by have := hy y m; omega), l.head]
  · have h1 := l.inn _ (getD_mem hi)
    have h2 := hd _ (getD_mem hi)
    rw [o.off _ (by omega) (by omega) (fun y m => by have := hy y m; have : xs.getD i 0 ≠ y := fun e => h2 (e ▸ m); omega), l.next i hi]
  · have h1 := l.inn _ (getD_mem hi)
    have h2 := hd _ (getD_mem hi)
    rw [o.off _ (by omega) (by omega) (fun y m => by have := hy y m; have : xs.getD i 0 ≠ y := fun e => h2 (e ▸ m); omega), l.prev i hi]

theorem Off.refl (nb pg : Int) (w : List Int) (h : Int) (ys : List Int) : Off nb pg w w h ys := ⟨rfl, fun _ _ _ _ => rfl⟩
theorem Off.set {nb pg h a x : Int} {w u ys : List Int} (o : Off nb pg w u h ys) (hu : 0 ≤ a ∧ a < w.length) (ha : a = h ∨ ∃ y ∈ ys, a = nb + y ∨ a = nb + pg + y) : Off nb pg w (u.set a.toNat x) h ys := by
  refine ⟨by rw [List.length_set, o.len], fun b hb h1 h2 => ?_⟩
  rw [wd_set (by rw [o.len]; exact hu) hb, if_neg ?_, o.off b hb h1 h2]
  rintro rfl
  rcases ha with rfl | ⟨y, hy, hb⟩
  · exact h1 rfl
  · have := h2 y hy; omega

end Go.Rx
end

section
/- ChunkOnly, plainly. -/
namespace Go.Rx
open Go.Proofs

theorem offs_at {a : Int} (h : 0 ≤ a) : offs a 0 = a := by
  have e : a = ((a.toNat : Nat) : Int) := by omega
  rw [e]; rfl
theorem stepR_off {cur : List Int} {pg tb : Int} (a : T_assartlaw08_Act) (htb : 0 ≤ tb) {b : Int} (b0 : 0 ≤ b) (hb : b < tb ∨ tb + (pg + 3) / 4 ≤ b) : wd (stepR cur pg tb a).2 b = wd cur b := by
  have ht : ∀ k st, wd (turnU cur pg tb k st) b = wd cur b := fun k st => by
    have h := turn_out (cur := cur) (pg := pg) (tb := tb) (k := k) (st := st) (j := b.toNat) htb (by omega)
    unfold wd; rw [List.getD, List.getD, h]
  have he : ∀ p n, wd (ensM cur pg tb p n).2 b = wd cur b := fun p n => by
    have h := ens_out (cur := cur) (pg := pg) (tb := tb) (a := p / 4) (j := b.toNat) htb (by omega) (ensK pg p n)
    unfold ensM wd; rw [List.getD, List.getD, h]
  unfold stepR
  repeat' split
  all_goals first | exact ht _ _ | exact he _ _ | rfl

theorem only_end {L : T_layout_Layout} {w u : List Int} (v : VOK L w.length w) (hw : w.length ≤ 40000) (hl : u.length = w.length) (h : ∀ b, 0 ≤ b → (b < L.at_0 ∨ L.at_0 + (L.c.Pages + 3) / 4 ≤ b) → wd u b = wd w b) :
    lp_law08_ChunkOnly_L2 L w (0, u) = some true := by
  have ht := v.tab
  have hpg := v.lay.pages
  obtain ⟨r, k1, rfl⟩ := loopO_ind (step := fun s : Int × List Int => sb_law08_ChunkOnly_L2 L w s.1 s.2)
    (I := fun s => 0 ≤ s.1 ∧ s.1 ≤ (L.c.Pages + 3) / 4 ∧ s.2.length = w.length ∧ ∀ b, 0 ≤ b → (b < L.at_0 + s.1 ∨ L.at_0 + (L.c.Pages + 3) / 4 ≤ b) → wd s.2 b = wd w b) (μ := fun s => ((L.c.Pages + 3) / 4 - s.1).toNat) (fun r => r = true) (by
      rintro ⟨j, x⟩ ⟨j0, j1, j2, j3⟩
      simp only at j0 j1 j2 j3 ⊢
      simp only [sb_law08_ChunkOnly_L2]
      rw [Chunks_eq v.lay, Option.bind_some]
      by_cases cc : j < (L.c.Pages + 3) / 4
      · have e1 : lTab L j = L.at_0 + j := by unfold lTab; rw [if_pos (by omega)]
        rw [decide_eq_true cc, cond_true, Table_eq v.lay, Option.bind_some, Option.bind_some, e1, offs_at (by omega), inR_int (by omega) (by omega), cond_true, cond_true, inR_int (by omega) (by omega), cond_true, cond_true, wrap_id (by omega) (by omega)]
        refine .inl ⟨_, rfl, ⟨by simp only; omega, by simp only; omega, by simp only [List.length_set]; exact j2, fun b b0 hb => ?_⟩, by simp only; omega⟩
        simp only at hb ⊢
        rw [wd_set (by omega) b0]
        by_cases e : b = L.at_0 + j
        · rw [if_pos e, e]; rfl
        · rw [if_neg e]; exact j3 b b0 (by omega)
      · have e : x = w := wd_ext j2 (fun b b0 => j3 b b0 (by omega))
        rw [decide_eq_false cc, cond_false, e, Same_eq (by omega), Option.bind_some, decide_eq_true rfl, cond_true, lives08_eq]
        exact .inr ⟨_, rfl, rfl⟩) (0, u) ⟨by simp only; omega, by simp only; omega, hl, fun b b0 hb => h b b0 (by simp only at hb; omega)⟩
  exact k1

theorem ChunkOnly_main (c : T_api_Config) (a : T_assartlaw08_Act) (ha : I64 a.K) : m_law08_ChunkOnly c a = some true := by
  unfold m_law08_ChunkOnly
  obtain ⟨d, hR, hB⟩ := Begin_eq c
  have hL := layC_ok hR
  have hw : 128 ≤ (layC d).at_11 ∧ (layC d).at_11 ≤ 40000 := by
    have hb := hL.big; have h11 := hL.a11; have hp := hL.pages
    omega
  rw [hB, Option.bind_some]
  obtain ⟨r, k1, rfl⟩ := loopO_ind (step := fun s : Int × List Int => sb_law08_ChunkOnly_L1 a (layC d) s.1 s.2)
    (I := fun s => 0 ≤ s.1 ∧ s.1 ≤ (layC d).at_11 ∧ s.2.length = (layC d).at_11.toNat) (μ := fun s => ((layC d).at_11 - s.1).toNat) (fun r => r = true) (by
      rintro ⟨i, w⟩ ⟨i0, i1, i2⟩
      simp only at i0 i1 i2 ⊢
      simp only [sb_law08_ChunkOnly_L1]
      by_cases cc : i < (w.length : Int)
      · rw [decide_eq_true cc, cond_true, offs_at i0, inR_int i0 cc, cond_true, cond_true, wrap_id (x := i + 1) (by omega) (by omega)]
        exact .inl ⟨_, rfl, ⟨by simp only; omega, by simp only; omega, by simp only [List.length_set]; exact i2⟩, by simp only; omega⟩
      · have v : VOK (layC d) w.length w := ⟨hL, rfl, by omega⟩
        have ht := v.tab
        rw [decide_eq_false cc, cond_false, Nat.ble_eq_true_of_le (by omega), cond_true]
        unfold m_law08_ChunkOnly_1
        rw [done_eq v ha, Option.bind_some, Option.bind_some, stepR_len, bne_self_eq_false, cond_false]
        rw [only_end v (by omega) (stepR_len _ _ _ _) (fun b b0 hb => stepR_off a ht.1 b0 hb)]
        exact .inr ⟨_, rfl, rfl⟩) (0, List.replicate (layC d).at_11.toNat 0) ⟨by omega, by omega, by simp⟩
  exact k1
end Go.Rx
end

section
/- From a function's contract to the row of its law: how arguments read, and that they read so behind the call. -/
namespace Go.Rx
open Go.ChangeShapes Go.WideShapes Go.ChangeAt Go.RowKit

/-- The kinds of a law's arguments: a slice that is read, a value. -/
inductive AK where
  | row (tg : Nat)
  | el (tg : Nat)

/-- An element's numbers fit their kinds. -/
def elWf (tg : Nat) (e : El tg) : Prop := ∀ k n, Value.int k n ∈ elEnc tg e → (Lit.int k n).wf = true

/-- A value of an element's kind. -/
def elV : (tg : Nat) → El tg → V
  | 0, (n : Int) => vi n
  | 1, (b : Bool) => vb b
  | t, e => .agg ((elEnc t e).map .ext)

def ArgsOf : List AK → Nat → List V → Heap → Prop
  | [], _, ags, H => ags = [] ∧ H = []
  | .row tg :: ks, n, ags, H => ∃ (l : List (El tg)) (ags' : List V) (H' : Heap), ags = .row n :: ags' ∧ H = .row tg l true :: H' ∧ (∀ e ∈ l, elWf tg e) ∧ l.length ≤ maxLen ∧ ArgsOf ks (n + 1) ags' H'
  | .el tg :: ks, n, ags, H => ∃ (e : El tg) (ags' : List V), ags = elV tg e :: ags' ∧ elWf tg e ∧ ArgsOf ks n ags' H

/-- A law: whatever comes in, true. -/
def lawS (ks : List AK) : Spec where
  tr := fun args H K => ArgsOf ks 0 args H ∧ ∀ H', K (vb true) H'

section
variable {P : Program} {elT : ET}

/-- What a program must tell of an element's type. -/
structure ElOK (P : Program) (elT : ET) (tg : Nat) : Prop where
  cells : P.cellsOf (elT tg) = elM tg
  reads : ∀ {H : Type} (enc : TypeId × Value → H) (W : World) (base : Nat) (sp : Nat → Bool) (held : Bool) (fuel : Nat) (cs : List Value) (x : DataW H × List MemPlace),
    DataW.trod enc P W base sp held fuel (elT tg) cs = some x → ∃ e : El tg, cs = elEnc tg e ∧ elWf tg e
  value : ∀ (W : World) (r : Reach) (b : Nat) (v : Value) (e : El tg), Value.okWide P W r b (elT tg) v → v.cells.toList = elEnc tg e → ∀ ρ, (elV tg e).den ρ = some v

variable {H : Type} {enc : TypeId × Value → H} {W : World} {sp : Nat → Bool} {held : Bool}

theorem open_row {tg : Nat} (ok : ElOK P elT tg) {t : TypeId} (ht : P.underlying t = some (.slice (elT tg))) {r : Reach} {b0 : Nat} {v : Value} {d : DataW H} {ps : List MemPlace}
    (hval : Value.okWide P W r b0 t v) (hd : DataW.Trod enc P W 0 sp held t v d ps) :
    ∃ (l : List (El tg)) (F : List Nat), (∀ n ∈ F, n < W.heap.size) ∧ (∀ e ∈ l, elWf tg e) ∧ l.length ≤ maxLen ∧ (∃ a cap, v = .slice a l.length cap) ∧ ∀ ρ, (Blk.row tg l true).holds elT ρ W v F := by
  obtain ⟨a, len, cap, rfl⟩ := okWide_slice ht hval
  obtain ⟨fuel, hf⟩ := hd
  rcases Deep.open_slice ht hf with ⟨h, _⟩ | ⟨ad, len', cap', m, n, D, Pl, h, _, hl, hm, hmm, _, hx⟩
  · simp [Value.cells] at h
    obtain ⟨rfl, rfl, rfl⟩ := h
    exact ⟨[], [], by simp, by simp, Nat.zero_le _, ⟨none, 0, rfl⟩, fun ρ => ⟨none, 0, rfl, Nat.le_refl _, Nat.zero_le _, fun _ => rfl, fun j x hj => by simp [flat] at hj⟩⟩
  · simp [Value.cells] at h
    obtain ⟨rfl, rfl, rfl⟩ := h
    have hlm : len ≤ m := by rw [hmm]; split <;> omega
    have key : ∀ i, i < len → ∃ e : El tg, W.cells? 0 (ad.add (i * elM tg)) (elM tg) = some (elEnc tg e) ∧ elWf tg e := by
      intro i hi
      obtain ⟨cs', h1, h2⟩ := hx i (by omega)
      rw [ok.cells] at h1
      obtain ⟨e, he, hw⟩ := ok.reads enc W 0 sp held n cs' _ h2
      exact ⟨e, by rw [h1, he], hw⟩
    haveI : Inhabited (El tg) := ⟨elD tg⟩
    obtain ⟨E, hE⟩ := Deep.choose_lt key
    refine ⟨(List.range len).map E, if ad.block < W.heap.size then [ad.block] else [], ?_, ?_, by simp; omega, ⟨some ad, cap, by simp⟩, fun ρ => ⟨some ad, cap, by simp, by simpa using hl, hm, (fun h => by cases h), fun j x hj => ?_⟩⟩
    · intro n hn
      split at hn
      · rename_i hb; simp at hn; omega
      · simp at hn
    · intro e he
      obtain ⟨i, hi, rfl⟩ := List.mem_map.1 he
      exact (hE i (by simpa using hi)).2
    · have hjl : j < len * elM tg := by
        have := (List.getElem?_eq_some_iff.1 hj).1
        rw [flat_len] at this; simpa using this
      have hM : 0 < elM tg := by
        rcases Nat.eq_zero_or_pos (elM tg) with h | h
        · rw [h] at hjl; simp at hjl
        · exact h
      have hk : j / elM tg < len := (Nat.div_lt_iff_lt_mul hM).2 hjl
      have hr : j % elM tg < elM tg := Nat.mod_lt _ hM
      have hje : j = j / elM tg * elM tg + j % elM tg := by rw [Nat.mul_comm]; exact (Nat.div_add_mod _ _).symm
      rw [hje, flat_get tg _ _ (by simpa using hk) _ hr] at hj
      have hg : ((List.range len).map E).getD (j / elM tg) (elD tg) = E (j / elM tg) := by simp [List.getD, hk]
      rw [hg] at hj
      obtain ⟨_, _, hc⟩ := World.cells?_some (hE _ hk).1
      have := hc _ hr
      rw [hj, Deep.add_add, ← hje] at this
      refine ⟨ad, rfl, ?_, this⟩
      have hb : (ad.add j).block = ad.block := block_add ad j
      have hlt : ad.block < W.heap.size := by
        rcases Nat.lt_or_ge ad.block W.heap.size with h | h
        · exact h
        · rw [← hb] at h
          simp [World.cell?, Array.getElem?_eq_none h] at this
      simp [hlt]

/-- What each argument's type must be. -/
def AKOK (P : Program) (elT : ET) : AK → TypeId → Prop
  | .row tg, t => P.underlying t = some (.slice (elT tg)) ∧ ElOK P elT tg
  | .el tg, t => t = elT tg ∧ ElOK P elT tg

def AKsOK (P : Program) (elT : ET) : List AK → List TypeId → Prop
  | [], [] => True
  | k :: ks, t :: ts => AKOK P elT k t ∧ AKsOK P elT ks ts
  | _, _ => False

theorem open_args : ∀ (ks : List AK) (ts : List TypeId) (vs : List Value) (ds : List (DataW H)) (ps : List MemPlace) (r : Reach) (b0 : Nat), AKsOK P elT ks ts →
    (∀ (j : Nat) t v, ts[j]? = some t → vs[j]? = some v → Value.okWide P W r b0 t v) → DataW.TrodAll enc P W 0 sp held ts vs ds ps → ∀ (ρ : List Value) (F : Nat → List Nat) (H0 : Heap), Sat elT ρ F H0 W → (∀ b ∈ H0, b.writable = false) →
    ∃ (ags : List V) (H1 : Heap) (ρ' : List Value) (F' : Nat → List Nat), ArgsOf ks ρ.length ags H1 ∧ denL ρ' ags = some vs ∧ Sat elT ρ' F' (H0 ++ H1) W ∧ (∀ b ∈ H0 ++ H1, b.writable = false) ∧ Le ρ ρ'
  | [], ts, vs, ds, ps, r, b0, hk, _, hd, ρ, F, H0, hs, hw => by
    cases ts with
    | cons t ts => exact hk.elim
    | nil =>
      obtain ⟨rfl, rfl, rfl⟩ := trodAll_nil hd
      exact ⟨[], [], ρ, F, ⟨rfl, rfl⟩, rfl, by simpa using hs, by simpa using hw, Le.refl ρ⟩
  | k :: ks, ts, vs, ds, ps, r, b0, hk, hval, hd, ρ, F, H0, hs, hw => by
    cases ts with
    | nil => exact hk.elim
    | cons t ts =>
      obtain ⟨hk1, hk2⟩ := hk
      obtain ⟨v, vs', d, ds', p, q, rfl, rfl, rfl, h1, h2⟩ := trodAll_cons hd
      have hv := hval 0 t v rfl rfl
      have hval' : ∀ (j : Nat) t v, ts[j]? = some t → vs'[j]? = some v → Value.okWide P W r b0 t v := fun j t v a b => hval (j + 1) t v (by simpa using a) (by simpa using b)
      cases k with
      | row tg =>
        obtain ⟨ht, ok⟩ := hk1
        obtain ⟨l, G, hG, hwf, hml, ⟨a, cap, hv2⟩, hh⟩ := open_row ok ht hv h1
        have hlen := hs.len
        have hs1 : Sat elT (ρ ++ [v]) (fset F H0.length G) (H0 ++ [.row tg l true]) W := by
          refine ⟨by simp [hlen], ?_, ?_, ?_⟩
          · intro i b x hb hx
            rcases push_get hb with ⟨hi, hb⟩ | ⟨rfl, rfl⟩
            · have hx' : ρ[i]? = some x := by rw [List.getElem?_append_left (by omega)] at hx; exact hx
              have e : fset F H0.length G i = F i := by unfold fset; rw [if_neg (by omega)]
              rw [e]
              exact Blk.holds_le (by intro i x h; exact List.getElem?_append_left (List.getElem?_eq_some_iff.1 h).1 ▸ h) (fun _ _ => rfl) b (hs.each i b x hb hx')
            · have hx' : x = v := by
                rw [List.getElem?_append_right (by omega)] at hx
                rw [show H0.length - ρ.length = 0 by omega] at hx
                simpa using hx.symm
              subst hx'
              have e : fset F H0.length G H0.length = G := by simp [fset]
              rw [e]
              exact hh _
          · intro i b hb n hn
            rcases push_get hb with ⟨hi, hb⟩ | ⟨rfl, rfl⟩
            · have e : fset F H0.length G i = F i := by unfold fset; rw [if_neg (by omega)]
              rw [e] at hn
              exact hs.lt i b hb n hn
            · have e : fset F H0.length G H0.length = G := by simp [fset]
              rw [e] at hn
              exact hG n hn
          · intro i j bi bj hbi hbj hij hwi
            exfalso
            have hm := List.mem_of_getElem? hbi
            rcases List.mem_append.1 hm with hm | hm
            · rw [hw bi hm] at hwi; cases hwi
            · simp at hm; subst hm; cases hwi
        have hw1 : ∀ b ∈ H0 ++ [Blk.row tg l true], b.writable = false := by
          intro b hb
          rcases List.mem_append.1 hb with hb | hb
          · exact hw b hb
          · simp at hb; subst hb; rfl
        obtain ⟨ags, H1, ρ', F', g1, g2, g3, g4, g5⟩ := open_args ks ts vs' ds' q r b0 hk2 hval' h2 _ _ _ hs1 hw1
        have hρ : ρ'[ρ.length]? = some v := g5 _ _ (by simp)
        refine ⟨.row ρ.length :: ags, .row tg l true :: H1, ρ', F', ⟨l, ags, H1, rfl, rfl, hwf, hml, by simpa using g1⟩, ?_, by simpa using g3, by simpa using g4, ?_⟩
        · have e : (V.row ρ.length).den ρ' = some v := by subst hv2; simp only [V.den, hρ]
          simp only [denL, e, g2]
        · intro i x hx
          exact g5 i x (by rw [List.getElem?_append_left (List.getElem?_eq_some_iff.1 hx).1]; exact hx)
      | el tg =>
        obtain ⟨rfl, ok⟩ := hk1
        obtain ⟨fuel, hf⟩ := h1
        obtain ⟨e, he, hwf⟩ := ok.reads enc W 0 sp held fuel _ _ hf
        obtain ⟨ags, H1, ρ', F', g1, g2, g3, g4, g5⟩ := open_args ks ts vs' ds' q r b0 hk2 hval' h2 ρ F H0 hs hw
        refine ⟨elV tg e :: ags, H1, ρ', F', ⟨e, ags, rfl, hwf, g1⟩, ?_, g3, g4, g5⟩
        simp only [denL, ok.value W r b0 v e hv he ρ', g2]

theorem trodAll_stays (hl : laidOutB P = true) {W' : World} {sp' : Nat → Bool} : ∀ {ts : List TypeId} {vs : List Value} {ds : List (DataW H)} {ps : List MemPlace}, ts.all (fun t => P.readableRec t && decide (t < P.types.size)) = true →
    DataW.TrodAll enc P W 0 (fun _ => true) true ts vs ds ps → (∀ x ∈ ps, W.sameAt W' x) → (∀ x ∈ ps, sp' x.block = true) → DataW.TrodAll enc P W' 0 sp' true ts vs ds ps
  | [], vs, ds, ps, _, h, _, _ => by
    obtain ⟨rfl, rfl, rfl⟩ := trodAll_nil h
    rfl
  | t :: ts, vs, ds, ps, hr, h, h1, h2 => by
    obtain ⟨v, vs', d, ds', p, q, rfl, rfl, rfl, g1, g2⟩ := trodAll_cons h
    simp only [List.all_cons, Bool.and_eq_true, decide_eq_true_eq] at hr
    exact ⟨p, q, WideElems.Trod_stays hl hr.1.1 hr.1.2 g1 (fun x hx => h1 x (by simp [hx])) (fun x hx => h2 x (by simp [hx])),
      trodAll_stays hl hr.2 g2 (fun x hx => h1 x (by simp [hx])) (fun x hx => h2 x (by simp [hx])), rfl⟩

/-- A call that reads alone, and its post. -/
theorem post_law {f : Func} {s : ChangeSpec} {apart fresh handsOn : Bool} {tb : TypeId} (hl : laidOutB P = true) (htb : P.underlying tb = some .bool) (hres : f.resultTypes = #[tb]) (hall : f.params.toList.all (fun t => P.readableRec t && decide (t < P.types.size)) = true)
    (hsv : s.vars = []) (hsp : ∀ ds : List (DataW H), ds.length = f.params.toList.length → s.fn H ds = { results := [.lit (.bool true)], args := ds })
    {W W' : World} {args : Array Value} {ds gs : List (DataW H)} {before : List MemPlace} (hW : DataW.Whole enc P f.params.toList s.vars apart W args.toList ds gs before) (hb : Below W.heap.size W W') :
    s.post enc P f apart fresh handsOn false W args (.bool true) W' := by
  have hlt : ∀ p ∈ before, p.block < W.heap.size := fun p hp => hW.lt p hp
  have hW' := hW
  obtain ⟨p, q, hA, hV, rfl, hfz, hnd⟩ := hW
  rw [hsv] at hV
  obtain ⟨rfl, rfl⟩ := trodVars_none hV
  have hlen : ∀ (ts : List TypeId) (vs : List Value) (ds : List (DataW H)) (ps : List MemPlace), DataW.TrodAll enc P W 0 (fun _ => true) true ts vs ds ps → ds.length = ts.length := by
    intro ts
    induction ts with
    | nil => intro vs ds ps h; obtain ⟨rfl, rfl, rfl⟩ := trodAll_nil h; rfl
    | cons t ts ih =>
      intro vs ds ps h
      obtain ⟨v, vs', d, ds', p, q, rfl, rfl, rfl, g1, g2⟩ := trodAll_cons h
      simp [ih _ _ _ g2]
  have hfn : s.fn H (ds ++ []) = { results := [.lit (.bool true)], args := ds } := by rw [List.append_nil]; exact hsp ds (hlen _ _ _ _ hA)
  refine ⟨ds, [], p ++ [], [], p, [], hW', ?_, ?_, ?_, hb.frame _, fun h => by cases h⟩
  · rw [hfn, hres]
    exact trodAll_mk1 (shut_bool htb true)
  · rw [hfn]
    exact trodAll_stays hl hall hA (fun x hx => hb.same (hlt x (by simpa using hx))) (fun x hx => by simpa using hlt x (by simpa using hx))
  · rw [hfn, hsv]
    rfl

/-- The law's contract is the row's. -/
theorem law_calls {f : Func} {s : ChangeSpec} {apart fresh handsOn : Bool} {tb : TypeId} {g : FuncId} {ks : List AK} (hspec : SpecOK P elT g (lawS ks)) (hk : AKsOK P elT ks f.params.toList)
    (hl : laidOutB P = true) (htb : P.underlying tb = some .bool) (hres : f.resultTypes = #[tb]) (hall : f.params.toList.all (fun t => P.readableRec t && decide (t < P.types.size)) = true)
    (hsv : s.vars = []) (hsp : ∀ ds : List (DataW H), ds.length = f.params.toList.length → s.fn H ds = { results := [.lit (.bool true)], args := ds })
    {W : World} {r : Reach} {base : Nat} {args : Array Value} {ds gs : List (DataW H)} {before : List MemPlace} (hval : ∀ (j : Nat) t v, f.params[j]? = some t → args[j]? = some v → Value.okWide P W r base t v)
    (hW : DataW.Whole enc P f.params.toList s.vars apart W args.toList ds gs before) :
    Calls P g args W fun e W' => ∃ v, e = .returned v ∧ s.post enc P f apart fresh handsOn false W args v W' := by
  have hW' := hW
  obtain ⟨p, q, hA, _⟩ := hW
  have h0 : Sat elT [] (fun _ => []) [] W := ⟨rfl, fun i b x hb => by simp at hb, fun i b hb => by simp at hb, fun i j bi bj hb => by simp at hb⟩
  obtain ⟨ags, H1, ρ, F, g1, g2, g3, g4, _⟩ := open_args ks f.params.toList args.toList ds p r base hk (fun j t v a b => hval j t v (by simpa using a) (by simpa using b)) hA [] (fun _ => []) [] h0 (by simp)
  have hc := hspec.2 ags H1 (fun v _ => v = vb true) ⟨g1, fun _ => rfl⟩ ρ F W args.toList g2 (by simpa using g3)
  rw [Array.toArray_toList] at hc
  refine hc.mono fun e W' h => ?_
  obtain ⟨v, x, ρ', F', H', rfl, rfl, hr, _, _, hfr⟩ := h
  have hx : x = .bool true := den_ext hr
  subst hx
  have hnw : ∀ (i : Nat) (b : Blk), H1[i]? = some b → b.writable = true → False := fun i b hb hw => by
    have := g4 b (by simpa using List.mem_of_getElem? hb)
    rw [this] at hw; cases hw
  have hb : Below W.heap.size W W' := ⟨hfr.os, hfr.tape, hfr.output, hfr.size, fun n hn => hfr.block n hn (fun i b hb hw => (hnw i b hb hw).elim)⟩
  exact ⟨_, rfl, post_law hl htb hres hall hsv hsp hW' hb⟩

/-! The cells of a type without pointers: numbers and truth values. -/
end

def flatFs (P : Program) (rec : TypeId → Option (List Bool)) : List Field → Nat → Option (List Bool)
  | [], _ => some []
  | f :: fs, o => match rec f.type with
    | none => none
    | some a => bif Nat.beq f.offset o && Nat.beq (P.cellsOf f.type) a.length then match flatFs P rec fs (o + a.length) with
      | some b => some (a ++ b)
      | none => none
      else none

/-- 'true': an int's cell; 'false': a bool's. -/
def flatK (P : Program) : Nat → TypeId → Option (List Bool)
  | 0, _ => none
  | n + 1, t => match P.underlying t with
    | some .bool => some [false]
    | some (.int .i64) => some [true]
    | some (.struct fs) => match flatFs P (flatK P n) fs.toList 0 with
      | some ks => bif Nat.beq (P.cellsOf t) ks.length then some ks else none
      | none => none
    | _ => none

def goodCell (b : Bool) (v : Option Value) : Prop := match b with
  | true => ∃ n, v = some (.int .i64 n) ∧ (Lit.int .i64 n).wf = true
  | false => ∃ c, v = some (.bool c)

section
variable {P : Program} {elT : ET} {H : Type} {enc : TypeId × Value → H} {W : World} {sp : Nat → Bool} {held : Bool}

theorem flatFs_good {rec : TypeId → Option (List Bool)} {base : Nat} {cs : List Value} (hrec : ∀ t ks fuel cs (x : DataW H × List MemPlace), rec t = some ks → DataW.trod enc P W base sp held fuel t cs = some x → cs.length = ks.length ∧ ∀ (i : Nat) (b : Bool), ks[i]? = some b → goodCell b cs[i]?) {n : Nat} :
    ∀ (fl : List Field) (o : Nat) (ks : List Bool), (∀ f ∈ fl, ∃ y, DataW.trod enc P W base sp held n f.type ((cs.drop f.offset).take (P.cellsOf f.type)) = some y) → flatFs P rec fl o = some ks → ∀ (i : Nat) (b : Bool), ks[i]? = some b → goodCell b cs[o + i]?
  | [], o, ks, _, h, i, b, hb => by simp only [flatFs, Option.some.injEq] at h; subst h; simp at hb
  | f :: fl, o, ks, hall, h, i, b, hb => by
    simp only [flatFs] at h
    split at h
    · cases h
    · rename_i a ha
      cases hc : (Nat.beq f.offset o && Nat.beq (P.cellsOf f.type) a.length) with
      | false => rw [hc] at h; cases h
      | true =>
        rw [hc] at h
        simp only [cond_true] at h
        simp only [Bool.and_eq_true] at hc
        have e1 := Nat.eq_of_beq_eq_true hc.1
        have e2 := Nat.eq_of_beq_eq_true hc.2
        split at h
        · rename_i b' hb'
          injection h with h
          subst h
          rcases Nat.lt_or_ge i a.length with hi | hi
          · rw [List.getElem?_append_left hi] at hb
            obtain ⟨y, hy⟩ := hall f (by simp)
            have hg := (hrec f.type a n _ y ha hy).2 i b hb
            rw [e1, e2, List.getElem?_take, if_pos hi, List.getElem?_drop] at hg
            exact hg
          · rw [List.getElem?_append_right hi] at hb
            have := flatFs_good hrec fl (o + a.length) b' (fun f hf => hall f (by simp [hf])) hb' (i - a.length) b hb
            rw [show o + a.length + (i - a.length) = o + i by omega] at this
            exact this
        · cases h

theorem flatK_good {base : Nat} : ∀ (n : Nat) (t : TypeId) (ks : List Bool) (fuel : Nat) (cs : List Value) (x : DataW H × List MemPlace), flatK P n t = some ks → DataW.trod enc P W base sp held fuel t cs = some x →
    cs.length = ks.length ∧ ∀ (i : Nat) (b : Bool), ks[i]? = some b → goodCell b cs[i]?
  | 0, t, ks, fuel, cs, x, h, _ => by cases h
  | n + 1, t, ks, fuel, cs, x, h, hx => by
    simp only [flatK] at h
    split at h
    · rename_i ht
      injection h with h; subst h
      obtain ⟨b, rfl, _⟩ := DataW.trod_bool ht hx
      refine ⟨rfl, fun i b' hb => ?_⟩
      cases i with
      | zero => simp at hb; subst hb; exact ⟨b, rfl⟩
      | succ i => simp at hb
    · rename_i ht
      injection h with h; subst h
      obtain ⟨m, rfl, _, hw⟩ := DataW.trod_int ht hx
      refine ⟨rfl, fun i b' hb => ?_⟩
      cases i with
      | zero => simp at hb; subst hb; exact ⟨m, rfl, hw⟩
      | succ i => simp at hb
    · rename_i fs ht
      split at h
      · rename_i ks' hks
        cases hc : Nat.beq (P.cellsOf t) ks'.length with
        | false => rw [hc] at h; cases h
        | true =>
          rw [hc] at h
          injection h with h; subst h
          obtain ⟨xs, m, _, _, hlen, hxs, hall⟩ := DataW.trod_struct ht hx
          refine ⟨by rw [hlen, Nat.eq_of_beq_eq_true hc], fun i b hb => ?_⟩
          have := flatFs_good (enc := enc) (W := W) (sp := sp) (held := held) (base := base) (cs := cs) (n := m) (fun t ks fuel cs x a b => flatK_good n t ks fuel cs x a b) fs.toList 0 ks' (fun f hf => by
            obtain ⟨k, hk⟩ := List.getElem?_of_mem hf
            rw [Array.getElem?_toList] at hk
            have h1 := hall k f hk
            have hi : k < fs.size := (Array.getElem?_eq_some_iff.1 hk).1
            rw [List.getElem?_eq_getElem (by omega)] at h1
            exact ⟨_, h1⟩) hks i b hb
          rwa [Nat.zero_add] at this
      · cases h
    · cases h

theorem struct_value {tg : Nat} {e : El tg} {fs : Array Field} {W : World} {r : Reach} {b : Nat} {v : Value} (ht : P.underlying (elT tg) = some (.struct fs)) (hv : Value.okWide P W r b (elT tg) v) (hcs : v.cells.toList = elEnc tg e) (ρ : List Value) :
    (V.agg ((elEnc tg e).map .ext)).den ρ = some v := by
  obtain ⟨cs, rfl, _⟩ := okWide_struct ht hv
  simp only [Value.cells] at hcs
  simp only [V.den, denL_ext]
  rw [← hcs]

end
end Go.Rx
end

section
/- Structs of ints, as a row reads them. -/
namespace Go.Rx
open Go.ChangeShapes Go.WideShapes

theorem elOK_ints {P : Program} {elT : ET} {fs : Array Field} {m : Nat} (ht : P.underlying (elT (m + 4)) = some (.struct fs)) (hc : P.cellsOf (elT (m + 4)) = m % 32 + 1)
    (hf : flatK P 6 (elT (m + 4)) = some (List.replicate (m % 32 + 1) true)) : ElOK P elT (m + 4) := by
  refine ⟨hc, fun enc W base sp held fuel cs x h => ?_, fun W r b v e hv hcs ρ => struct_value ht hv hcs ρ⟩
  obtain ⟨hlen, hg⟩ := flatK_good 6 (elT (m + 4)) _ fuel cs x hf h
  rw [List.length_replicate] at hlen
  have hI : ∀ i, i < m % 32 + 1 → ∃ n, cs[i]? = some (.int .i64 n) ∧ (Lit.int .i64 n).wf = true := fun i hi => hg i true (by rw [List.getElem?_replicate, if_pos hi])
  obtain ⟨N, hN⟩ := Deep.choose_lt hI
  have hget : ∀ i, i < m % 32 + 1 → ((List.range (m % 32 + 1)).map N).getD i 0 = N i := fun i hi => by simp [List.getD, hi]
  have hcs : cs = elEnc (m + 4) ((List.range (m % 32 + 1)).map N : List Int) := by
    show cs = (List.range (m % 32 + 1)).map fun i => i64 (((List.range (m % 32 + 1)).map N).getD i 0)
    apply List.ext_getElem?
    intro i
    rcases Nat.lt_or_ge i (m % 32 + 1) with hi | hi
    · rw [(hN i hi).1, List.getElem?_map, List.getElem?_range hi, Option.map_some, hget i hi]
    · rw [List.getElem?_eq_none (by omega), List.getElem?_eq_none (by simpa using hi)]
  refine ⟨_, hcs, fun k n hm => ?_⟩
  have hm' : Value.int k n ∈ cs := by rw [hcs]; exact hm
  obtain ⟨i, hi⟩ := List.getElem?_of_mem hm'
  have hil : i < m % 32 + 1 := by rw [← hlen]; exact (List.getElem?_eq_some_iff.1 hi).1
  obtain ⟨h1, h2⟩ := hN i hil
  rw [h1] at hi
  injection hi with hi
  injection hi with e1 e2
  subst e1; subst e2
  exact h2
end Go.Rx
end

section
/- The law 'ChunkOnly', out of its plain form. -/
namespace Go.Rx
open Go.Proofs
theorem el_i64 {n : Nat} {e : List Int} (h : elWf (n + 4) e) {i : Nat} (hi : i < n % 32 + 1) : I64 (e.getD i 0) := by
  have h1 := h .i64 (e.getD i 0) (List.mem_map.2 ⟨i, List.mem_range.2 hi, rfl⟩)
  exact bounds_i64 h1
theorem law_law08_ChunkOnly : SpecOK Try.prog elTT 5 (lawS [.el 14, .el 6]) := spec_mono (fun args H K h => by
  obtain ⟨ha, hk⟩ := h
  obtain ⟨e0, _, rfl, hw0, e1, _, rfl, hw1, rfl, rfl⟩ := ha
  show So (m_law08_ChunkOnly (⟨List.getD (e0 : List Int) 0 0, List.getD (e0 : List Int) 1 0, List.getD (e0 : List Int) 2 0, List.getD (e0 : List Int) 3 0, List.getD (e0 : List Int) 4 0, List.getD (e0 : List Int) 5 0, List.getD (e0 : List Int) 6 0, List.getD (e0 : List Int) 7 0, List.getD (e0 : List Int) 8 0, List.getD (e0 : List Int) 9 0, List.getD (e0 : List Int) 10 0⟩ : T_api_Config) (⟨List.getD (e1 : List Int) 0 0, List.getD (e1 : List Int) 1 0, List.getD (e1 : List Int) 2 0⟩ : T_assartlaw08_Act)) _
  exact So_eq (ChunkOnly_main _ _ (el_i64 (n := 2) hw1 (by decide))) (hk _)) ok_law08_ChunkOnly
end Go.Rx
end
