/- What the row's text of this claim stands on, part 3: the symbolic executor, contracts of the program's functions, plain facts. No condition. -/
import Derived.Test.YtgogaoelkdjajaaK09pB
section
/- Views: pairs, ask. -/
namespace Go.Rx
open Go.Proofs
attribute [local irreducible] Loop ex exF contK roundK retK at_ bodyOf mkEnv mkA

theorem pair1_ok : SpecOK Try.prog elTT 155 pair1S := by
  refine spec_of_exF (cfg := cfg110) (cfg_ok rfl rfl rfl) (sigGet0_ok place_ok rfl) (fn := Try.f155) (by kernel_rfl) (by kernel_rfl) (by kernel_rfl) ?_
  intro args H K h
  unfold pair1S at h
  simp only at h
  split at h
  · rename_i a x
    split at h
    · rename_i U
      exact Eq.mpr (nf110a a x U K) h
    · rename_i U l
      exact Eq.mpr (nf110b a x U l K) h
    · exact h.elim
  · exact h.elim

theorem sigEach_ok : ∀ g s, sigEach g = some s → SpecOK Try.prog elTT g s := by
  intro g s hg
  unfold sigEach at hg
  split at hg
  · injection hg with hg; subst hg; exact pair1_ok
  · injection hg with hg; subst hg; exact len_ok
  · cases hg

theorem eachS_elim {args : List V} {H : Heap} {K : V → Heap → Prop} (h : eachS.tr args H K) : ∃ (its : List (List Int)) (T U : TypeId), args = [.ptr 0 0, .fn 155 [.ptr 1 0]] ∧ H = [.cells T [.row 2], .cells U [.ext (.slice none 0 0)], .row 5 its true] ∧ its.length ≤ 1048576 ∧
    br (Nat.beq its.length 0) (K (.tup []) [.cells T [.row 2], .cells U [.ext (.slice none 0 0)], .row 5 its true]) (K (.tup []) [.cells T [.row 2], .cells U [.row 3], .row 5 its true, .row 2 (its.map prOf) false]) := by
  unfold eachS at h
  simp only at h
  split at h
  · rename_i T U its
    have hr := Req_elim h
    exact ⟨its, T, U, rfl, rfl, Nat.le_of_ble_eq_true hr.1, hr.2⟩
  · exact h.elim

theorem map_take_succ {its : List (List Int)} {i : Nat} (h : i < its.length) : (its.take (i + 1)).map prOf = (its.take i).map prOf ++ [⟨(its.getD i (List.replicate 2 0)).getD 0 0, (its.getD i (List.replicate 2 0)).getD 1 0⟩] := by
  rw [List.take_succ_eq_append_getElem h, List.map_append]
  simp [prOf, List.getD, List.getElem?_eq_getElem h]

def eachR (its : List (List Int)) (T U : TypeId) (l : List Pr) : Heap := [.cells T [.row 2], .cells U [.row 3], .row 5 its true, .row 2 l false]
def eachH (its : List (List Int)) (T U : TypeId) (i : Nat) : Heap := match i with
  | 0 => [.cells T [.row 2], .cells U [.ext (.slice none 0 0)], .row 5 its true]
  | i + 1 => [.cells T [.row 2], .cells U [.row 3], .row 5 its true, .row 2 ((its.take (i + 1)).map prOf) false]

theorem each_ok : SpecOK Try.prog elTT 154 eachS := by
  refine spec_of_exF (cfg := cfg109) (cfg_ok rfl rfl rfl) sigEach_ok (fn := Try.f154) (by kernel_rfl) (by kernel_rfl) (by kernel_rfl) ?_
  intro args H K h
  obtain ⟨its, T, U, rfl, rfl, hl, hk⟩ := eachS_elim h
  refine Eq.mpr (nf109 its T U K) ?_
  refine loop_ind (σ := Nat) (fun i => mkEnv [(0, .ptr 0 0), (1, .fn 155 [.ptr 1 0]), (6, vi (its.length : Int)), (7, vi i)]) (fun i => eachH its T U i) (fun i => i ≤ its.length) (fun i => its.length - i) ?_ 0 (Nat.zero_le _)
  intro i hi J hJ
  match i with
  | 0 =>
    refine Eq.mpr (nf109a its T U its.length (0 : Nat) K J) (br_intro (fun h1 => ?_) (fun h1 => ?_))
    · have h1 : 0 < its.length := by simpa using h1
      have hn := hJ 1 h1 (by omega)
      simp only [offs_nat, inR_nat h1, Req_true, Int.toNat_natCast, wrap_succ (show 0 ≤ 4611686018427387904 by omega)]
      have e : eachH its T U 1 = eachR its T U [⟨(its.getD 0 (List.replicate 2 0)).getD 0 0, (its.getD 0 (List.replicate 2 0)).getD 1 0⟩] := congrArg (eachR its T U) (map_take_succ h1)
      rw [e] at hn
      exact hn
    · have h1 : its.length = 0 := by simpa using h1
      rw [h1] at hk
      exact hk
  | i + 1 =>
    refine Eq.mpr (nf109b its T U its.length ((i + 1 : Nat) : Int) ((its.take (i + 1)).map prOf) K J) (br_intro (fun h1 => ?_) (fun h1 => ?_))
    · have h1 : i + 1 < its.length := by simp at h1; omega
      have hn := hJ (i + 1 + 1) h1 (by omega)
      simp only [offs_nat, inR_nat h1, Req_true, Int.toNat_natCast, wrap_succ (show i + 1 ≤ 4611686018427387904 by omega)]
      have e : eachH its T U (i + 1 + 1) = eachR its T U ((its.take (i + 1)).map prOf ++ [⟨(its.getD (i + 1) (List.replicate 2 0)).getD 0 0, (its.getD (i + 1) (List.replicate 2 0)).getD 1 0⟩]) := congrArg (eachR its T U) (map_take_succ h1)
      rw [e] at hn
      refine Req_intro (decide_eq_true ?_) hn
      simp; omega
    · have h1 : i + 1 = its.length := by simp at h1; omega
      have h0 : Nat.beq its.length 0 = false := by rw [← h1]; rfl
      rw [h0] at hk
      have : its.take (i + 1) = its := by rw [h1]; exact List.take_length
      rw [this]
      exact hk

theorem sigPairs_ok : ∀ g s, sigPairs g = some s → SpecOK Try.prog elTT g s := by
  intro g s hg
  unfold sigPairs at hg
  split at hg
  · injection hg with hg; subst hg; exact each_ok
  · cases hg

theorem pairs_ok : SpecOK Try.prog elTT 123 pairsS := by
  refine spec_of_exF (cfg := cfg105) (cfg_ok rfl rfl rfl) sigPairs_ok (fn := Try.f123) (by kernel_rfl) (by kernel_rfl) (by kernel_rfl) ?_
  intro args H K h
  unfold pairsS at h
  simp only at h
  split at h
  · rename_i T its
    have hr := Req_elim h
    refine Eq.mpr (nf105 its T K) (Req_intro hr.1 (br_intro (fun h1 => ?_) (fun _ => hr.2)))
    have h1 : List.length its = 0 := Nat.eq_of_beq_eq_true h1
    have h2 : its = [] := List.eq_nil_of_length_eq_zero h1
    subst h2
    exact hr.2
  · exact h.elim

theorem askS_elim {args : List V} {H : Heap} {K : V → Heap → Prop} (h : askS.tr args H K) : ∃ (ws : List Int) (m : Int → Option Int) (n : Nat) (nd : List Pr) (a : Int) (T : TypeId), args = [.ptr 0 0, vi a] ∧ H = [.cells T [.row 1, .mp 2, .row 3], .row 0 ws true, .map m n, .row 2 nd false] ∧ inR a ws.length = true ∧
    br ((m a).getD 0 == 0)
      (Req (decide (nd.length + 1 ≤ 1048576)) (K (.tup [vi (List.getD ws (Int.toNat (offs a 0)) 0), vb true]) [.cells T [.row 1, .mp 2, .row 4], .row 0 ws true, .map (mapSet m a (IntKind.i64.wrap ((m a).getD 0 + 1))) (n + 1), .dead, .row 2 (nd ++ [⟨a, List.getD ws (Int.toNat (offs a 0)) 0⟩]) false]))
      (K (.tup [vi (List.getD ws (Int.toNat (offs a 0)) 0), vb true]) [.cells T [.row 1, .mp 2, .row 3], .row 0 ws true, .map m n, .row 2 nd false]) := by
  unfold askS at h
  simp only at h
  split at h
  · rename_i a T ws m n nd
    have hr := Req_elim h
    exact ⟨ws, m, n, nd, a, T, rfl, rfl, hr.1, hr.2⟩
  · exact h.elim

theorem ask_ok : SpecOK Try.prog elTT 74 askS := by
  refine spec_of_exF (cfg := cfg97) (cfg_ok rfl rfl rfl) sigPairs_ok (fn := Try.f74) (by kernel_rfl) (by kernel_rfl) (by kernel_rfl) ?_
  intro args H K h
  obtain ⟨ws, m, n, nd, a, T, rfl, rfl, h1, h2⟩ := askS_elim h
  have h3 := h1
  unfold inR at h3
  simp at h3
  refine Eq.mpr (nf97 ws m n nd a T K) (br_false (decide_eq_false (by omega)) (Req_intro h1 (Req_intro ?_ h2)))
  have : offs a 0 = a := by
    have : a = ((a.toNat : Nat) : Int) := by omega
    rw [this]; rfl
  rw [this]; exact h1
end Go.Rx
end

section
/- Views: what a program reads and writes. -/
namespace Go.Rx
open Go.Proofs

def readS : Spec := ⟨fun args H K => match args, H with
  | [.ptr 0 0, .ext (.int .i64 a)], [.pk 0 [ws, cur] xs [.row 1], .row 0 l true] => Req (eqL l ws && (Nat.ble xs.length 2 && inR a ws.length)) (K (vi (cur.getD a.toNat 0)) [.pk 0 [ws, cur] xs [.row 1], .row 0 l true])
  | _, _ => False, false⟩
def writeS : Spec := ⟨fun args H K => match args, H with
  | [.ptr 0 0, .ext (.int .i64 a), .ext (.int .i64 x)], [.pk 0 [ws, cur] xs [.row 1], .row 0 l true] => Req (eqL l ws && (Nat.ble xs.length 2 && inR a ws.length)) (K (.tup []) [.pk 0 [ws, cur.set a.toNat x] xs [.row 1], .row 0 l true])
  | _, _ => False, false⟩
def sigRW : FuncId → Option Spec := fun f => match f with
  | 74 => some askS
  | 131 => some putS
  | 130 => some getS
  | _ => none
noncomputable def cfg114 : Cfg := { cfgB with sigs := sigRW }
end Go.Rx
end

section
/- Normal forms of the program's code (by a program of this session's; the kernel checks each). -/
namespace Go.Rx
open Go.Proofs
set_option maxRecDepth 100000
theorem nf114 (ws : List Int) (m : Int → Option Int) (n : Nat) (nd : List Pr) (its : List (List Int)) (a : Int) (K : V → Heap → Prop) : (exF cfg114 Try.f90 [.ptr 0 0, vi a] (viewHeap 74 (.row 0 ws true) m n nd its) K) = (
    br (Decidable.decide (a < 0))
      (
      K (vi (0)) [.cells 0 [.mth 74 (.ptr 1 0), .ptr 3 0, vb (Bool.true)], .cells 0 [.row 2, .mp 4, .row 5], .row 0 (ws : List (Int)) Bool.true, .cells 0 [.row 6], .map (m) (n), .row 2 (nd : List (Go.Rx.Pr)) Bool.false, .row 5 (its : List (List Int)) Bool.false])
      (
      Req (Go.Rx.sortedI its && Nat.ble (List.length its) 1048577)
        (
        br (Go.Rx.hasI its a)
          (
          K (vi (Option.getD (Go.Rx.lookI its a) 0)) [.cells 0 [.mth 74 (.ptr 1 0), .ptr 3 0, vb (Bool.true)], .cells 0 [.row 2, .mp 4, .row 5], .row 0 (ws : List (Int)) Bool.true, .cells 0 [.row 6], .map (m) (n), .row 2 (nd : List (Go.Rx.Pr)) Bool.false, .row 5 (its : List (List Int)) Bool.false])
          (
          Req (Go.Rx.inR a (List.length ws))
            (
            br (Option.getD (m a) 0 == 0)
              (
              Req (Decidable.decide (List.length nd + 1 ≤ 1048576))
                (
                K (vi (List.getD ws (Int.toNat (Go.Rx.offs a 0)) 0)) [.cells 0 [.mth 74 (.ptr 1 0), .ptr 3 0, vb (Bool.true)], .cells 0 [.row 2, .mp 4, .row 7], .row 0 (ws : List (Int)) Bool.true, .cells 0 [.row 6], .map (Go.Rx.mapSet m a (Go.IntKind.wrap Go.IntKind.i64 (Option.getD (m a) 0 + 1))) (n + 1), .dead, .row 5 (its : List (List Int)) Bool.false, .row 2 (nd ++ [Go.Rx.Pr.mk a (List.getD ws (Int.toNat (Go.Rx.offs a 0)) 0)] : List (Go.Rx.Pr)) Bool.false]))
              (
              K (vi (List.getD ws (Int.toNat (Go.Rx.offs a 0)) 0)) [.cells 0 [.mth 74 (.ptr 1 0), .ptr 3 0, vb (Bool.true)], .cells 0 [.row 2, .mp 4, .row 5], .row 0 (ws : List (Int)) Bool.true, .cells 0 [.row 6], .map (m) (n), .row 2 (nd : List (Go.Rx.Pr)) Bool.false, .row 5 (its : List (List Int)) Bool.false])))))) := by
  kernel_rfl

theorem nf112 (ws : List Int) (m : Int → Option Int) (n : Nat) (nd : List Pr) (its : List (List Int)) (a : Int) (x : Int) (K : V → Heap → Prop) : (exF cfg114 Try.f91 [.ptr 0 0, vi a, vi x] (viewHeap 74 (.row 0 ws true) m n nd its) K) = (
    br (Decidable.decide (a < 0))
      (
      K (.tup []) [.cells 0 [.mth 74 (.ptr 1 0), .ptr 3 0, vb (Bool.true)], .cells 0 [.row 2, .mp 4, .row 5], .row 0 (ws : List (Int)) Bool.true, .cells 0 [.row 6], .map (m) (n), .row 2 (nd : List (Go.Rx.Pr)) Bool.false, .row 5 (its : List (List Int)) Bool.false])
      (
      Req (Go.Rx.sortedI its && Nat.ble (List.length (Go.Rx.putI its a x)) 1048576)
        (
        br (Go.Rx.hasI its a)
          (
          K (.tup []) [.cells 0 [.mth 74 (.ptr 1 0), .ptr 3 0, vb (Bool.true)], .cells 0 [.row 2, .mp 4, .row 5], .row 0 (ws : List (Int)) Bool.true, .cells 0 [.row 6], .map (m) (n), .row 2 (nd : List (Go.Rx.Pr)) Bool.false, .row 5 (Go.Rx.putI its a x : List (List Int)) Bool.false])
          (
          K (.tup []) [.cells 0 [.mth 74 (.ptr 1 0), .ptr 3 0, vb (Bool.true)], .cells 0 [.row 2, .mp 4, .row 5], .row 0 (ws : List (Int)) Bool.true, .cells 0 [.row 7], .map (m) (n), .row 2 (nd : List (Go.Rx.Pr)) Bool.false, .dead, .row 5 (Go.Rx.putI its a x : List (List Int)) Bool.false])))) := by
  kernel_rfl

end Go.Rx
end

section
/- Views: Read and Write, over the words as one. -/
namespace Go.Rx
open Go.Proofs
attribute [local irreducible] Loop ex exF contK roundK retK at_ bodyOf mkEnv mkA

theorem sorted_len {n : Int} : ∀ {its : List (List Int)} {lo : Int}, its.Pairwise (fun x y => keyOf x < keyOf y) → (∀ e ∈ its, lo ≤ keyOf e ∧ keyOf e < n) → (its.length : Int) ≤ max (n - lo) 0
  | [], _, _, _ => by simp; omega
  | e :: r, lo, h, hb => by
    rw [List.pairwise_cons] at h
    have h0 := hb e (by simp)
    have := sorted_len (n := n) (its := r) (lo := keyOf e + 1) h.2 (fun y hy => ⟨by have := h.1 y hy; omega, (hb y (by simp [hy])).2⟩)
    simp only [List.length_cons]
    omega

theorem nodup_len : ∀ {n : Nat} {l : List Nat}, l.Nodup → (∀ x ∈ l, x < n) → l.length ≤ n
  | 0, l, _, hb => by
    cases l with
    | nil => simp
    | cons x r => have := hb x (by simp); omega
  | n + 1, l, h, hb => by
    by_cases hn : n ∈ l
    · have h1 := h.erase n
      have h2 : ∀ x ∈ l.erase n, x < n := fun x hx => by
        have := (h.mem_erase_iff).1 hx
        have := hb x this.2
        omega
      have := nodup_len h1 h2
      rw [List.length_erase_of_mem hn] at this
      omega
    · have := nodup_len h (n := n) (fun x hx => by
        have := hb x hx
        have : x ≠ n := fun e => hn (e ▸ hx)
        omega)
      omega

theorem nd_len {ws : List Int} {nd : List Pr} (h1 : ∀ p ∈ nd, 0 ≤ p.Addr ∧ p.Addr < (ws.length : Int)) (h2 : nd.Pairwise (fun x y => x.Addr ≠ y.Addr)) : nd.length ≤ ws.length := by
  have : (nd.map fun p => p.Addr.toNat).length ≤ ws.length := by
    refine nodup_len ?_ (fun x hx => ?_)
    · refine List.pairwise_map.2 ?_
      refine List.Pairwise.imp_of_mem (fun {x y} hx hy hxy => ?_) h2
      have := h1 x hx
      have := h1 y hy
      omega
    · obtain ⟨p, hp, rfl⟩ := List.mem_map.1 hx
      have := h1 p hp
      omega
  simpa using this

theorem view_its {ws cur : List Int} {m : Int → Option Int} {nd : List Pr} {its : List (List Int)} (h : ViewOK ws cur m nd its) : its.length ≤ ws.length := by
  have := sorted_len (n := (ws.length : Int)) (lo := 0) h.sorted h.keys
  omega

theorem view_val {ws cur : List Int} {m : Int → Option Int} {nd : List Pr} {its : List (List Int)} (h : ViewOK ws cur m nd its) {a : Int} (ha : inR a ws.length = true) :
    cur.getD a.toNat 0 = (lookI its a).getD (ws.getD a.toNat 0) ∧ offs a 0 = a := by
  unfold inR at ha
  simp at ha
  have e : a = ((a.toNat : Nat) : Int) := by omega
  refine ⟨?_, by rw [e]; rfl⟩
  have := h.cur a.toNat (by omega)
  rw [this]
  conv => lhs; rw [← e]

theorem ViewOK.asks {ws cur : List Int} {m : Int → Option Int} {nd : List Pr} {its : List (List Int)} (h : ViewOK ws cur m nd its) {a : Int} (ha : inR a ws.length = true) (hm : ((m a).getD 0 == 0) = true) (x : Int) :
    ViewOK ws cur (mapSet m a (IntKind.i64.wrap ((m a).getD 0 + 1))) (nd ++ [⟨a, x⟩]) its ∧ nd.length + 1 ≤ 1048576 := by
  unfold inR at ha
  simp at ha
  have hm : (m a).getD 0 = 0 := by simpa using hm
  have hnot : ∀ p ∈ nd, p.Addr ≠ a := fun p hp e => by
    have := h.asked p hp
    rw [e] at this
    exact this hm
  have honce : (nd ++ [(⟨a, x⟩ : Pr)]).Pairwise (fun x y => x.Addr ≠ y.Addr) := by
    rw [List.pairwise_append]
    refine ⟨h.once, by simp, fun p hp q hq => ?_⟩
    simp at hq
    subst hq
    exact hnot p hp
  have htold : ∀ p ∈ nd ++ [(⟨a, x⟩ : Pr)], 0 ≤ p.Addr ∧ p.Addr < (ws.length : Int) := fun p hp => by
    rcases List.mem_append.1 hp with hp | hp
    · exact h.told p hp
    · simp at hp; subst hp; exact ⟨by simp only; omega, by simp only; omega⟩
  refine ⟨⟨h.small, h.len, h.sorted, h.keys, h.cur, fun p hp => ?_, htold, honce⟩, ?_⟩
  · unfold mapSet
    rcases List.mem_append.1 hp with hp | hp
    · rw [if_neg (hnot p hp)]; exact h.asked p hp
    · simp at hp; subst hp
      rw [if_pos rfl, hm]
      have : IntKind.i64.wrap (0 + 1) = 1 := wrap_id (by omega) (by omega)
      rw [this]
      simp
  · have := nd_len htold honce
    have := h.small
    simp at *
    omega

theorem ViewOK.puts {ws cur : List Int} {m : Int → Option Int} {nd : List Pr} {its : List (List Int)} (h : ViewOK ws cur m nd its) {a : Int} (ha : inR a ws.length = true) (x : Int) :
    ViewOK ws (cur.set a.toNat x) m nd (putI its a x) ∧ (putI its a x).length ≤ 1048576 := by
  unfold inR at ha
  simp at ha
  obtain ⟨h1, h2, h3⟩ := putI_sorted h.sorted a x
  have hv : ViewOK ws (cur.set a.toNat x) m nd (putI its a x) := by
    refine ⟨h.small, by simp [h.len], h1, fun e he => ?_, fun i hi => ?_, h.asked, h.told, h.once⟩
    · rcases h3 e he with h4 | h4
      · exact h.keys e h4
      · rw [h4]; omega
    · rw [h2]
      have hl := h.len
      by_cases e : (i : Int) = a
      · rw [if_pos e]
        have : a.toNat = i := by omega
        rw [this]
        simp [List.getD, List.getElem?_set, hi, hl]
      · rw [if_neg e]
        have : a.toNat ≠ i := by omega
        rw [List.getD, List.getElem?_set_ne this]
        exact h.cur i hi
  exact ⟨hv, by have := view_its hv; have := h.small; omega⟩

theorem sigRW_ok : ∀ g s, sigRW g = some s → SpecOK Try.prog elTT g s := by
  intro g s hg
  unfold sigRW at hg
  split at hg
  · injection hg with hg; subst hg; exact ask_ok
  · injection hg with hg; subst hg; exact put_ok
  · injection hg with hg; subst hg; exact get_ok
  · cases hg

theorem readS_elim {args : List V} {H : Heap} {K : V → Heap → Prop} (h : readS.tr args H K) : ∃ (a : Int) (ws cur : List Int) (xs : List Value), args = [.ptr 0 0, vi a] ∧ H = [.pk 0 [ws, cur] xs [.row 1], .row 0 ws true] ∧ xs.length ≤ 2 ∧ inR a ws.length = true ∧
    K (vi (cur.getD a.toNat 0)) [.pk 0 [ws, cur] xs [.row 1], .row 0 ws true] := by
  unfold readS at h
  simp only at h
  split at h
  · rename_i a ws cur xs l
    have hr := Req_elim h
    have h1 := hr.1
    simp only [Bool.and_eq_true] at h1
    have e : l = ws := eqL_eq h1.1
    subst e
    exact ⟨a, l, cur, xs, rfl, rfl, Nat.le_of_ble_eq_true h1.2.1, h1.2.2, hr.2⟩
  · exact h.elim

theorem writeS_elim {args : List V} {H : Heap} {K : V → Heap → Prop} (h : writeS.tr args H K) : ∃ (a x : Int) (ws cur : List Int) (xs : List Value), args = [.ptr 0 0, vi a, vi x] ∧ H = [.pk 0 [ws, cur] xs [.row 1], .row 0 ws true] ∧ xs.length ≤ 2 ∧ inR a ws.length = true ∧
    K (.tup []) [.pk 0 [ws, cur.set a.toNat x] xs [.row 1], .row 0 ws true] := by
  unfold writeS at h
  simp only at h
  split at h
  · rename_i a x ws cur xs l
    have hr := Req_elim h
    have h1 := hr.1
    simp only [Bool.and_eq_true] at h1
    have e : l = ws := eqL_eq h1.1
    subst e
    exact ⟨a, x, l, cur, xs, rfl, rfl, Nat.le_of_ble_eq_true h1.2.1, h1.2.2, hr.2⟩
  · exact h.elim

noncomputable def exS114 : Spec := ⟨fun args H K => exF cfg114 Try.f90 args H K, false⟩
noncomputable def exS112 : Spec := ⟨fun args H K => exF cfg114 Try.f91 args H K, false⟩
theorem exS114_ok : SpecOK Try.prog elTT 90 exS114 :=
  spec_of_exF (cfg := cfg114) (cfg_ok rfl rfl rfl) sigRW_ok (fn := Try.f90) (by kernel_rfl) (by kernel_rfl) (by kernel_rfl) fun _ _ _ h => h
theorem exS112_ok : SpecOK Try.prog elTT 91 exS112 :=
  spec_of_exF (cfg := cfg114) (cfg_ok rfl rfl rfl) sigRW_ok (fn := Try.f91) (by kernel_rfl) (by kernel_rfl) (by kernel_rfl) fun _ _ _ h => h

theorem absE : elTT.abs = absView 74 := rfl

/-- How a view's parts stand behind a step: 0 as they did, 1 with what is noted anew, 2 with what was written anew. -/
theorem ids0 : nodup [0, 1, 2, 3, 4, 5, 6] = true ∧ (∀ i, i < 3 → [0, 1, 2, 3, 4, 5, 6][i]? = some i) := ⟨rfl, fun i hi => by match i, hi with | 0, _ => rfl | 1, _ => rfl | 2, _ => rfl⟩
theorem ids1 : nodup [0, 1, 2, 3, 4, 7, 6] = true ∧ (∀ i, i < 3 → [0, 1, 2, 3, 4, 7, 6][i]? = some i) := ⟨rfl, fun i hi => by match i, hi with | 0, _ => rfl | 1, _ => rfl | 2, _ => rfl⟩
theorem ids2 : nodup [0, 1, 2, 3, 4, 5, 7] = true ∧ (∀ i, i < 3 → [0, 1, 2, 3, 4, 5, 7][i]? = some i) := ⟨rfl, fun i hi => by match i, hi with | 0, _ => rfl | 1, _ => rfl | 2, _ => rfl⟩

theorem abs_view {ws cur : List Int} {m : Int → Option Int} {nd : List Pr} {its : List (List Int)} (n : Nat) (h : ViewOK ws cur m nd its) : elTT.abs 0 [ws, cur] (viewHeap 74 .dead m n nd its) := ⟨m, n, nd, its, rfl, h⟩

theorem read_ok : SpecOK Try.prog elTT 90 readS := by
  refine spec_open (absView_ok absE) exS114_ok ?_
  intro args H K h
  obtain ⟨a, ws, cur, xs, rfl, rfl, hx, ha, hk⟩ := readS_elim h
  refine ⟨0, [ws, cur], xs, 0, ws, rfl, hx, rfl, fun Hc hc => ?_⟩
  obtain ⟨m, n, nd, its, rfl, hv⟩ : ∃ m n nd its, Hc = viewHeap 74 .dead m n nd its ∧ ViewOK ws cur m nd its := hc
  obtain ⟨hval, hoff⟩ := view_val hv ha
  have hlen := view_its hv
  have hsm := hv.small
  have ha2 := ha
  unfold inR at ha2
  simp at ha2
  refine Eq.mpr (nf114 ws m n nd its a _) (br_false (decide_eq_false (by omega)) (Req_intro (by simp only [sortedI, decide_eq_true hv.sorted, Bool.true_and]; exact Nat.ble_eq_true_of_le (by omega)) (br_intro (fun h1 => ?_) (fun h1 => Req_intro ha (br_intro (fun h2 => ?_) (fun h2 => ?_))))))
  · refine ⟨[ws, cur], viewHeap 74 .dead m n nd its, [0, 1, 2, 3, 4, 5, 6], rfl, abs_view n hv, ids0.1, ids0.2, rfl, ?_⟩
    unfold hasI at h1
    obtain ⟨v, hv'⟩ := Option.isSome_iff_exists.1 h1
    rw [hv'] at hval ⊢
    rw [hval] at hk
    exact hk
  · have hn : lookI its a = none := by unfold hasI at h1; simpa using h1
    rw [hn] at hval
    rw [hval] at hk
    obtain ⟨hv2, hnl⟩ := hv.asks ha h2 (List.getD ws (Int.toNat (offs a 0)) 0)
    refine Req_intro (decide_eq_true hnl) ⟨[ws, cur], viewHeap 74 .dead _ (n + 1) _ its, [0, 1, 2, 3, 4, 7, 6], rfl, abs_view (n + 1) hv2, ids1.1, ids1.2, rfl, ?_⟩
    rw [hoff]
    exact hk
  · have hn : lookI its a = none := by unfold hasI at h1; simpa using h1
    rw [hn] at hval
    rw [hval] at hk
    refine ⟨[ws, cur], viewHeap 74 .dead m n nd its, [0, 1, 2, 3, 4, 5, 6], rfl, abs_view n hv, ids0.1, ids0.2, rfl, ?_⟩
    rw [hoff]
    exact hk

theorem write_ok : SpecOK Try.prog elTT 91 writeS := by
  refine spec_open (absView_ok absE) exS112_ok ?_
  intro args H K h
  obtain ⟨a, x, ws, cur, xs, rfl, rfl, hx, ha, hk⟩ := writeS_elim h
  refine ⟨0, [ws, cur], xs, 0, ws, rfl, hx, rfl, fun Hc hc => ?_⟩
  obtain ⟨m, n, nd, its, rfl, hv⟩ : ∃ m n nd its, Hc = viewHeap 74 .dead m n nd its ∧ ViewOK ws cur m nd its := hc
  obtain ⟨hv2, hlen⟩ := hv.puts ha x
  have ha2 := ha
  unfold inR at ha2
  simp at ha2
  refine Eq.mpr (nf112 ws m n nd its a x _) (br_false (decide_eq_false (by omega)) (Req_intro (by simp only [sortedI, decide_eq_true hv.sorted, Bool.true_and]; exact Nat.ble_eq_true_of_le (by omega)) (br_intro (fun h1 => ?_) (fun h1 => ?_))))
  · exact ⟨[ws, cur.set a.toNat x], viewHeap 74 .dead m n nd (putI its a x), [0, 1, 2, 3, 4, 5, 6], rfl, abs_view n hv2, ids0.1, ids0.2, rfl, hk⟩
  · exact ⟨[ws, cur.set a.toNat x], viewHeap 74 .dead m n nd (putI its a x), [0, 1, 2, 3, 4, 5, 7], rfl, abs_view n hv2, ids2.1, ids2.2, rfl, hk⟩
end Go.Rx
end

section
/- view.Do, for any program over a view. -/
namespace Go.Rx
open Go.Proofs

/-! A view's run, for any program over a view. -/
noncomputable def sigOver : FuncId → Option Spec := fun f => match f with
  | 153 => some (inlS cfgB Try.f153)
  | _ => none
noncomputable def cfg107 : Cfg := { cfgB with sigs := sigOver, plan := fun r => match r with | 0 => some (List.range 4, 2) | _ => none }
def opsOf0 (f : Func) : Array Oper := match f.body with
  | some (.region _ ops _) => ops
  | _ => #[]
noncomputable def f107r : Func := { Try.f152 with body := some (.region 0 ((opsOf0 Try.f152).map noRecO) true) }
noncomputable def overX : Spec := ⟨fun args H K => exF cfg107 f107r args H K, false⟩
noncomputable def sdRun : FuncId → Option Spec := fun f => match f with
  | 152 => some overX
  | _ => none
noncomputable def cfgRun (g : FuncId) (s : Spec) : Cfg := { cfgB with sigs := fun f => bif Nat.beq f g then some (packS 74 s) else none }
noncomputable def runX (g : FuncId) (s : Spec) : Spec := ⟨fun args H K => exFD (cfgRun g s) sdRun Try.f122 args H K, false⟩
noncomputable def sigAll (g : FuncId) (s : Spec) : FuncId → Option Spec := fun f => match f with
  | 121 => some newS
  | 122 => some (runX g s)
  | 123 => some pairsS
  | _ => none
noncomputable def cfgAll (g : FuncId) (s : Spec) : Cfg := { cfgB with sigs := sigAll g s }
noncomputable def sigDo (g : FuncId) (s : Spec) : FuncId → Option Spec := fun f => match f with
  | 73 => some (inlS (cfgAll g s) Try.f73)
  | _ => none
noncomputable def cfgDo (g : FuncId) (s : Spec) (k : List (Nat × Option Nat)) : Cfg := { cfgB with
  sigs := sigDo g s
  keep := fun r => match r with | 9 => some k | _ => none
  keepB := fun b => match b with | 0 => some [(0, none), (7, none), (10, none)] | _ => none
  plan := fun r => match r with | 15 => some (List.range 8, 0) | _ => none }


end Go.Rx
end

section
/- view.Do, for any program over a view: the contracts that it stands on; what is written at the end. -/
namespace Go.Rx
open Go.Proofs
attribute [local irreducible] Loop ex exF contK roundK retK at_ bodyOf mkEnv mkA

theorem sigOver_ok : ∀ g s, sigOver g = some s → SpecOK Try.prog elTT g s := by
  intro g s hs
  unfold sigOver at hs
  split at hs
  · injection hs with hs; subst hs; exact inlS_ok (cfg := cfgB) (cfg_ok rfl rfl rfl) (nosig rfl) (fn := Try.f153) (by kernel_rfl) (by kernel_rfl) (by kernel_rfl)
  · cases hs

theorem overX_ok : SpecDOK Try.prog elTT 152 overX :=
  specD_of_exF_rec (cfg := cfg107) (cfg_ok rfl rfl rfl) sigOver_ok (fn := Try.f152) (by kernel_rfl) (by kernel_rfl) (id := 0) (ops := opsOf0 Try.f152) (by kernel_rfl) (plan := List.range 4) (kd := 2) rfl rfl fun _ _ _ h => h

theorem sdRun_ok : ∀ g s, sdRun g = some s → SpecDOK Try.prog elTT g s := by
  intro g s hs
  unfold sdRun at hs
  split at hs
  · injection hs with hs; subst hs; exact overX_ok
  · cases hs

theorem runX_ok {g : FuncId} {s : Spec} (h : SpecOK Try.prog elTT g s) : SpecOK Try.prog elTT 122 (runX g s) :=
  spec_of_exFD (cfg := cfgRun g s) (cfg_ok rfl rfl rfl) (fun f t hs => by
    change (bif Nat.beq f g then some (packS 74 s) else none) = some t at hs
    cases hb : Nat.beq f g with
    | false => rw [hb] at hs; cases hs
    | true =>
      rw [hb] at hs
      have := Nat.eq_of_beq_eq_true hb
      subst this
      injection hs with hs; subst hs
      exact pack_ok (cfg := cfgB) absE h) sdRun_ok (fn := Try.f122) (by kernel_rfl) (by kernel_rfl) (by kernel_rfl) fun _ _ _ h => h

theorem sigAll_ok {g : FuncId} {s : Spec} (h : SpecOK Try.prog elTT g s) : ∀ f t, sigAll g s f = some t → SpecOK Try.prog elTT f t := by
  intro f t hs
  unfold sigAll at hs
  split at hs
  · exact (Option.some.inj hs) ▸ new_ok
  · exact (Option.some.inj hs) ▸ runX_ok h
  · exact (Option.some.inj hs) ▸ pairs_ok
  · cases hs

theorem sigDo_ok {g : FuncId} {s : Spec} (h : SpecOK Try.prog elTT g s) : ∀ f t, sigDo g s f = some t → SpecOK Try.prog elTT f t := by
  intro f t hs
  unfold sigDo at hs
  split at hs
  · refine (Option.some.inj hs) ▸ ?_
    exact inlS_ok (cfg := cfgAll g s) (cfg_ok rfl rfl rfl) (sigAll_ok h) (fn := Try.f73) (by kernel_rfl) (by kernel_rfl) (by kernel_rfl)
  · cases hs

/-- The words, as far as what was written is put in. -/
def nowN (ws : List Int) (its : List (List Int)) : Nat → List Int
  | 0 => ws
  | n + 1 => (nowN ws its n).set (prOf (its.getD n [])).Addr.toNat (prOf (its.getD n [])).Val

theorem nowN_len (ws : List Int) (its : List (List Int)) : ∀ n, (nowN ws its n).length = ws.length
  | 0 => rfl
  | n + 1 => by rw [nowN, List.length_set, nowN_len]

theorem nowN_get {ws : List Int} {its : List (List Int)} (hs : its.Pairwise (fun x y => keyOf x < keyOf y)) (hb : ∀ e ∈ its, 0 ≤ keyOf e ∧ keyOf e < (ws.length : Int)) {j : Nat} (hj : j < ws.length) :
    ∀ n, n ≤ its.length → (nowN ws its n).getD j 0 = (lookI (its.take n) j).getD (ws.getD j 0)
  | 0, _ => rfl
  | n + 1, hn => by
    have hn' : n < its.length := by omega
    have ih := nowN_get hs hb hj n (by omega)
    have hg : its.getD n [] = its[n] := by simp [List.getD, List.getElem?_eq_getElem hn']
    have hk := hb its[n] (List.getElem_mem hn')
    rw [List.take_succ_eq_append_getElem hn', lookI_append]
    simp only [nowN, hg]
    show ((nowN ws its n).set (keyOf its[n]).toNat (valOf its[n])).getD j 0 = _
    by_cases e : keyOf its[n] = (j : Int)
    · have h1 : (keyOf its[n]).toNat = j := by omega
      rw [h1]
      have h2 : lookI (its.take n) (j : Int) = none := lookI_none (fun y hy => by
        obtain ⟨i, hi, he⟩ := List.mem_take_iff_getElem.1 hy
        have h3 := List.pairwise_iff_getElem.1 hs i n (by omega) hn' (by omega)
        rw [he] at h3
        omega)
      rw [h2]
      simp only [lookI, if_pos e, Option.none_or, Option.getD_some]
      simp [List.getD, List.getElem?_set, nowN_len, hj]
    · have h1 : (keyOf its[n]).toNat ≠ j := by omega
      simp only [lookI, if_neg e, Option.or_none]
      rw [← ih, List.getD, List.getElem?_set_ne h1]
      rfl

theorem nowN_all {ws cur : List Int} {m : Int → Option Int} {nd : List Pr} {its : List (List Int)} (h : ViewOK ws cur m nd its) : nowN ws its its.length = cur := by
  apply List.ext_getElem?
  intro j
  by_cases hj : j < ws.length
  · have h1 := nowN_get h.sorted h.keys hj its.length (Nat.le_refl _)
    rw [List.take_length] at h1
    have h2 := h.cur j hj
    rw [← h2] at h1
    have l1 : j < (nowN ws its its.length).length := by rw [nowN_len]; exact hj
    have l2 : j < cur.length := by rw [h.len]; exact hj
    simp only [List.getD, List.getElem?_eq_getElem l1, List.getElem?_eq_getElem l2, Option.getD_some] at h1
    rw [List.getElem?_eq_getElem l1, List.getElem?_eq_getElem l2, h1]
  · rw [List.getElem?_eq_none (by rw [nowN_len]; omega), List.getElem?_eq_none (by rw [h.len]; omega)]

theorem prs_get {its : List (List Int)} {n : Nat} (h : n < its.length) : (its.map prOf).getD n ⟨0, 0⟩ = prOf (its.getD n []) := by
  simp [List.getD, h]

theorem pr_in {ws cur : List Int} {m : Int → Option Int} {nd : List Pr} {its : List (List Int)} (h : ViewOK ws cur m nd its) {n : Nat} (hn : n < its.length) : 0 ≤ (prOf (its.getD n [])).Addr ∧ (prOf (its.getD n [])).Addr < (ws.length : Int) := by
  have hg : its.getD n [] = its[n] := by simp [List.getD, List.getElem?_eq_getElem hn]
  rw [hg]
  exact h.keys _ (List.getElem_mem hn)
end Go.Rx
end

section
/- Views: Read and Write, told anew. -/
namespace Go.Rx
open Go.Proofs
def chainT : List Nat → PT → PT
  | [], t => t
  | i :: r, t => .op i (chainT r t)
theorem Req_all {e b c : Bool} {A : Prop} (he : e = true) (hb : b = true) (h : Req c A) : Req (e && (b && c)) A := by
  subst he; subst hb; exact h
def rdS : Spec := ⟨fun args H K => match args, H with
  | [.ptr 0 0, .ext (.int .i64 a)], [.pk 0 [ws, cur] xs [.row 1], .row 0 l true] => ws = l ∧ xs.length ≤ 2 ∧ Req (inR a ws.length) (K (vi (rd cur a)) [.pk 0 [ws, cur] xs [.row 1], .row 0 l true])
  | _, _ => False, false⟩
def wrS : Spec := ⟨fun args H K => match args, H with
  | [.ptr 0 0, .ext (.int .i64 a), .ext (.int .i64 x)], [.pk 0 [ws, cur] xs [.row 1], .row 0 l true] => ws = l ∧ xs.length ≤ 2 ∧ Req (inR a ws.length) (K (.tup []) [.pk 0 [ws, wr cur a x] xs [.row 1], .row 0 l true])
  | _, _ => False, false⟩
theorem rd_ok : SpecOK Try.prog elTT 90 rdS := spec_mono (fun args H K h => by
  unfold rdS at h
  simp only at h
  split at h
  · obtain ⟨h1, h2, h3⟩ := h
    subst h1
    unfold readS
    simp only
    exact Req_all (eqL_self _) (Nat.ble_eq_true_of_le h2) h3
  · exact h.elim) read_ok
theorem wr_ok : SpecOK Try.prog elTT 91 wrS := spec_mono (fun args H K h => by
  unfold wrS at h
  simp only at h
  split at h
  · obtain ⟨h1, h2, h3⟩ := h
    subst h1
    unfold writeS
    simp only
    exact Req_all (eqL_self _) (Nat.ble_eq_true_of_le h2) h3
  · exact h.elim) write_ok
end Go.Rx
end

section
/- Contracts. -/
namespace Go.Rx
open Go.Proofs
set_option maxRecDepth 100000
set_option maxHeartbeats 4000000
/-! (assart/layout.Layout).Config -/
def tr_layout_Layout_Config (m_ : T_layout_Layout → Option (T_api_Config)) (args : List V) (H : Heap) (K : V → Heap → Prop) : Prop :=
  aC args fun a0 r => aN r <| aAgg a0 fun c0 => d_layout_Layout c0 fun l2 => aN H <| So (m_ l2) fun x => K (.agg (e_api_Config (x))) []
def sp_layout_Layout_Config (m_ : T_layout_Layout → Option (T_api_Config)) : Spec := ⟨tr_layout_Layout_Config m_, (true : Bool)⟩

/-! (assart/layout.Layout).Words -/
def tr_layout_Layout_Words (m_ : T_layout_Layout → Option (Int)) (args : List V) (H : Heap) (K : V → Heap → Prop) : Prop :=
  aC args fun a0 r => aN r <| aAgg a0 fun c0 => d_layout_Layout c0 fun l2 => aN H <| So (m_ l2) fun x => K (vi (x)) []
def sp_layout_Layout_Words (m_ : T_layout_Layout → Option (Int)) : Spec := ⟨tr_layout_Layout_Words m_, (true : Bool)⟩

/-! assart/layout.chunks -/
def tr_layout_chunks (m_ : Int → Option (Int)) (args : List V) (H : Heap) (K : V → Heap → Prop) : Prop :=
  aC args fun a0 r => aN r <| aInt a0 fun pages => aN H <| So (m_ pages) fun x => K (vi (x)) []
def sp_layout_chunks (m_ : Int → Option (Int)) : Spec := ⟨tr_layout_chunks m_, (true : Bool)⟩

/-! (assart/layout.Layout).Chunks -/
def tr_layout_Layout_Chunks (m_ : T_layout_Layout → Option (Int)) (args : List V) (H : Heap) (K : V → Heap → Prop) : Prop :=
  aC args fun a0 r => aN r <| aAgg a0 fun c0 => d_layout_Layout c0 fun l2 => aN H <| So (m_ l2) fun x => K (vi (x)) []
def sp_layout_Layout_Chunks (m_ : T_layout_Layout → Option (Int)) : Spec := ⟨tr_layout_Layout_Chunks m_, (true : Bool)⟩

/-! (assart/layout.Layout).Table -/
def tr_layout_Layout_Table (m_ : T_layout_Layout → Int → Option (Int)) (args : List V) (H : Heap) (K : V → Heap → Prop) : Prop :=
  aC args fun a0 r => aC r fun a1 r => aN r <| aAgg a0 fun c0 => d_layout_Layout c0 fun l2 => aInt a1 fun k => aN H <| So (m_ l2 k) fun x => K (vi (x)) []
def sp_layout_Layout_Table (m_ : T_layout_Layout → Int → Option (Int)) : Spec := ⟨tr_layout_Layout_Table m_, (true : Bool)⟩

/-! (assart/layout.Layout).Kind -/
def tr_layout_Layout_Kind (m_ : T_layout_Layout → Int → Option (Int)) (args : List V) (H : Heap) (K : V → Heap → Prop) : Prop :=
  aC args fun a0 r => aC r fun a1 r => aN r <| aAgg a0 fun c0 => d_layout_Layout c0 fun l2 => aInt a1 fun p => aN H <| So (m_ l2 p) fun x => K (vi (x)) []
def sp_layout_Layout_Kind (m_ : T_layout_Layout → Int → Option (Int)) : Spec := ⟨tr_layout_Layout_Kind m_, (true : Bool)⟩

/-! (assart/layout.Layout).Count -/
def tr_layout_Layout_Count (m_ : T_layout_Layout → Int → Option (Int)) (args : List V) (H : Heap) (K : V → Heap → Prop) : Prop :=
  aC args fun a0 r => aC r fun a1 r => aN r <| aAgg a0 fun c0 => d_layout_Layout c0 fun l2 => aInt a1 fun p => aN H <| So (m_ l2 p) fun x => K (vi (x)) []
def sp_layout_Layout_Count (m_ : T_layout_Layout → Int → Option (Int)) : Spec := ⟨tr_layout_Layout_Count m_, (true : Bool)⟩

/-! (assart/layout.Layout).Bits -/
def tr_layout_Layout_Bits (m_ : T_layout_Layout → Int → Option (Int)) (args : List V) (H : Heap) (K : V → Heap → Prop) : Prop :=
  aC args fun a0 r => aC r fun a1 r => aN r <| aAgg a0 fun c0 => d_layout_Layout c0 fun l2 => aInt a1 fun p => aN H <| So (m_ l2 p) fun x => K (vi (x)) []
def sp_layout_Layout_Bits (m_ : T_layout_Layout → Int → Option (Int)) : Spec := ⟨tr_layout_Layout_Bits m_, (true : Bool)⟩

/-! (assart/layout.Layout).Next -/
/-! (assart/layout.Layout).Prev -/
/-! (assart/layout.Layout).none -/
/-! (assart/layout.Layout).Head -/
/-! (assart/layout.limit).holds -/
def tr_layout_limit_holds (m_ : T_layout_limit → Option (Bool)) (args : List V) (H : Heap) (K : V → Heap → Prop) : Prop :=
  aC args fun a0 r => aN r <| aAgg a0 fun c0 => d_layout_limit c0 fun xv => aN H <| So (m_ xv) fun x => K (vb (x)) []
def sp_layout_limit_holds (m_ : T_layout_limit → Option (Bool)) : Spec := ⟨tr_layout_limit_holds m_, (true : Bool)⟩

/-! assart/layout.Check -/
def tr_layout_Check (m_ : T_api_Config → Option (Int)) (args : List V) (H : Heap) (K : V → Heap → Prop) : Prop :=
  aC args fun a0 r => aN r <| aAgg a0 fun c0 => d_api_Config c0 fun c => aN H <| So (m_ c) fun x => K (vi (x)) []
def sp_layout_Check (m_ : T_api_Config → Option (Int)) : Spec := ⟨tr_layout_Check m_, (true : Bool)⟩

/-! assart/layout.Of -/
def tr_layout_Of (m_ : T_api_Config → Option (T_layout_Layout × Int)) (args : List V) (H : Heap) (K : V → Heap → Prop) : Prop :=
  aC args fun a0 r => aN r <| aAgg a0 fun c0 => d_api_Config c0 fun c => aN H <| So (m_ c) fun x => K (.tup [.agg (e_layout_Layout (x.1)), vi (x.2)]) []
def sp_layout_Of (m_ : T_api_Config → Option (T_layout_Layout × Int)) : Spec := ⟨tr_layout_Of m_, (true : Bool)⟩

noncomputable def cfg_layout_Layout_Config  : Cfg := { cfgB with
  sigs := sigN }

noncomputable def cfg_layout_Layout_Words  : Cfg := { cfgB with
  sigs := sigN }

noncomputable def cfg_layout_chunks  : Cfg := { cfgB with
  sigs := sigN }

noncomputable def cfg_layout_Layout_Chunks (m_layout_chunks : Int → Option (Int)) : Cfg := { cfgB with
  sigs := (sigC 83 (sp_layout_chunks m_layout_chunks) sigN) }

noncomputable def cfg_layout_Layout_Table (m_layout_Layout_Chunks : T_layout_Layout → Option (Int)) : Cfg := { cfgB with
  sigs := (sigC 30 (sp_layout_Layout_Chunks m_layout_Layout_Chunks) (sigC 84 (inlS cfgB Try.f84) sigN)),
  plan := fun r => match r with | 1 => some (List.range 6, 0) | _ => none }

noncomputable def cfg_layout_Layout_Kind  : Cfg := { cfgB with
  sigs := (sigC 84 (inlS cfgB Try.f84) sigN) }

noncomputable def cfg_layout_Layout_Count  : Cfg := { cfgB with
  sigs := (sigC 84 (inlS cfgB Try.f84) sigN) }

noncomputable def cfg_layout_Layout_Bits  : Cfg := { cfgB with
  sigs := (sigC 84 (inlS cfgB Try.f84) sigN) }

noncomputable def cfg_layout_limit_holds  : Cfg := { cfgB with
  sigs := sigN }

noncomputable def cfg_layout_Check (m_layout_limit_holds : T_layout_limit → Option (Bool)) : Cfg := { cfgB with
  sigs := (sigC 149 (sp_layout_limit_holds m_layout_limit_holds) sigN),
  keep := fun r => match r with | 2 => some [(38, some 38), (39, none), (40, none)] | _ => none,
  unroll := fun r => match r with | 2 => some 12 | _ => none }

noncomputable def cfg_layout_Of (m_layout_Check : T_api_Config → Option (Int)) (m_layout_chunks : Int → Option (Int)) : Cfg := { cfgB with
  sigs := (sigC 118 (sp_layout_Check m_layout_Check) (sigC 83 (sp_layout_chunks m_layout_chunks) sigN)),
  keep := fun r => match r with | 8 => some [(1, none), (2, none), (5, none), (6, none), (23, some 0), (24, none), (25, none)] | 19 => some [(2, none), (5, none), (6, none), (9, none), (59, none)] | _ => none,
  unroll := fun r => match r with | 8 => some 6 | 19 => some 12 | _ => none }

theorem nf_layout_Layout_Config (l2 : T_layout_Layout) (K : V → Heap → Prop) : (exF cfg_layout_Layout_Config Try.f27 [.agg (e_layout_Layout l2)] [] K) = (
    K (.agg (e_api_Config (T_layout_Layout.c l2))) []) := by
  kernel_rfl

theorem nf_layout_Layout_Words (l2 : T_layout_Layout) (K : V → Heap → Prop) : (exF cfg_layout_Layout_Words Try.f69 [.agg (e_layout_Layout l2)] [] K) = (
    K (vi (T_layout_Layout.at_11 l2)) []) := by
  kernel_rfl

theorem nf_layout_chunks (pages : Int) (K : V → Heap → Prop) : (exF cfg_layout_chunks Try.f83 [vi pages] [] K) = (
    K (vi (IntKind.wrap IntKind.i64 (Int.tdiv (IntKind.wrap IntKind.i64 (IntKind.wrap IntKind.i64 (pages + 4) - 1)) 4))) []) := by
  kernel_rfl

theorem nf_layout_Layout_Chunks (m_layout_chunks : Int → Option (Int)) (l2 : T_layout_Layout) (K : V → Heap → Prop) : (exF (cfg_layout_Layout_Chunks m_layout_chunks) Try.f30 [.agg (e_layout_Layout l2)] [] K) = (
    So (m_layout_chunks (T_api_Config.Pages (T_layout_Layout.c l2))) (fun (y0 : Int) => (K (vi (y0)) []))) := by
  kernel_rfl

theorem nf_layout_Layout_Table (m_layout_Layout_Chunks : T_layout_Layout → Option (Int)) (l2 : T_layout_Layout) (k : Int) (K : V → Heap → Prop) : (exF (cfg_layout_Layout_Table m_layout_Layout_Chunks) Try.f31 [.agg (e_layout_Layout l2), vi k] [] K) = (
    So (m_layout_Layout_Chunks l2) (fun (y0 : Int) => (br (Decidable.decide (k < 0)) (K (vi (0)) []) (br (Decidable.decide (k ≥ y0)) (K (vi (0)) []) (K (vi (IntKind.wrap IntKind.i64 (T_layout_Layout.at_0 l2 + k))) []))))) := by
  kernel_rfl

theorem nf_layout_Layout_Kind (l2 : T_layout_Layout) (p : Int) (K : V → Heap → Prop) : (exF cfg_layout_Layout_Kind Try.f99 [.agg (e_layout_Layout l2), vi p] [] K) = (
    br (Decidable.decide (p < 0)) (K (vi (0)) []) (br (Decidable.decide (p ≥ T_api_Config.Pages (T_layout_Layout.c l2))) (K (vi (0)) []) (K (vi (IntKind.wrap IntKind.i64 (T_layout_Layout.at_1 l2 + p))) []))) := by
  kernel_rfl

theorem nf_layout_Layout_Count (l2 : T_layout_Layout) (p : Int) (K : V → Heap → Prop) : (exF cfg_layout_Layout_Count Try.f147 [.agg (e_layout_Layout l2), vi p] [] K) = (
    br (Decidable.decide (p < 0)) (K (vi (0)) []) (br (Decidable.decide (p ≥ T_api_Config.Pages (T_layout_Layout.c l2))) (K (vi (0)) []) (K (vi (IntKind.wrap IntKind.i64 (T_layout_Layout.at_2 l2 + p))) []))) := by
  kernel_rfl

theorem nf_layout_Layout_Bits (l2 : T_layout_Layout) (p : Int) (K : V → Heap → Prop) : (exF cfg_layout_Layout_Bits Try.f148 [.agg (e_layout_Layout l2), vi p] [] K) = (
    br (Decidable.decide (p < 0)) (K (vi (0)) []) (br (Decidable.decide (p ≥ T_api_Config.Pages (T_layout_Layout.c l2))) (K (vi (0)) []) (K (vi (IntKind.wrap IntKind.i64 (T_layout_Layout.at_3 l2 + p))) []))) := by
  kernel_rfl

theorem nf_layout_limit_holds (xv : T_layout_limit) (K : V → Heap → Prop) : (exF cfg_layout_limit_holds Try.f149 [.agg (e_layout_limit xv)] [] K) = (
    br (Decidable.decide (T_layout_limit.n xv ≥ T_layout_limit.low xv)) (K (vb (Decidable.decide (T_layout_limit.n xv ≤ T_layout_limit.high xv))) []) (K (vb (Bool.false)) [])) := by
  kernel_rfl

theorem nf_layout_Check (m_layout_limit_holds : T_layout_limit → Option (Bool)) (c : T_api_Config) (K : V → Heap → Prop) : (exF (cfg_layout_Check m_layout_limit_holds) Try.f118 [.agg (e_api_Config c)] [] K) = (
    So (m_layout_limit_holds (T_layout_limit.mk (T_api_Config.Workers c) 1 64)) (fun (y0 : Bool) => (br (!y0) (K (vi (2)) []) (So (m_layout_limit_holds (T_layout_limit.mk (T_api_Config.CPUs c) 1 8)) (fun (y1 : Bool) => (br (!y1) (K (vi (2)) []) (So (m_layout_limit_holds (T_layout_limit.mk (T_api_Config.Pages c) 1 256)) (fun (y2 : Bool) => (br (!y2) (K (vi (2)) []) (So (m_layout_limit_holds (T_layout_limit.mk (T_api_Config.Stripes c) 1 64)) (fun (y3 : Bool) => (br (!y3) (K (vi (2)) []) (So (m_layout_limit_holds (T_layout_limit.mk (T_api_Config.Tries c) 0 16)) (fun (y4 : Bool) => (br (!y4) (K (vi (2)) []) (So (m_layout_limit_holds (T_layout_limit.mk (T_api_Config.Wait c) 0 64)) (fun (y5 : Bool) => (br (!y5) (K (vi (2)) []) (So (m_layout_limit_holds (T_layout_limit.mk (T_api_Config.Clock c) 1 1099511627776)) (fun (y6 : Bool) => (br (!y6) (K (vi (2)) []) (So (m_layout_limit_holds (T_layout_limit.mk (T_api_Config.Private c) 1 8)) (fun (y7 : Bool) => (br (!y7) (K (vi (2)) []) (So (m_layout_limit_holds (T_layout_limit.mk (T_api_Config.Cache c) 0 8)) (fun (y8 : Bool) => (br (!y8) (K (vi (2)) []) (So (m_layout_limit_holds (T_layout_limit.mk (T_api_Config.Bin c) 0 16)) (fun (y9 : Bool) => (br (!y9) (K (vi (2)) []) (So (m_layout_limit_holds (T_layout_limit.mk (T_api_Config.Batch c) 1 8)) (fun (y10 : Bool) => (br (!y10) (K (vi (2)) []) (K (vi (0)) [])))))))))))))))))))))))))))))))))) := by
  kernel_rfl

theorem nf_layout_Of (m_layout_Check : T_api_Config → Option (Int)) (m_layout_chunks : Int → Option (Int)) (c : T_api_Config) (K : V → Heap → Prop) : (exF (cfg_layout_Of m_layout_Check m_layout_chunks) Try.f68 [.agg (e_api_Config c)] [] K) = (
    So (m_layout_Check c) (fun (y0 : Int) => (br (y0 != 0) (K (.tup [.agg [vi (0), vi (0), vi (0), vi (0), vi (0), vi (0), vi (0), vi (0), vi (0), vi (0), vi (0), vi (0), vi (0), vi (0), vi (0), vi (0), vi (0), vi (0), vi (0), vi (0), vi (0), vi (0), vi (0)], vi (y0)]) []) (So (m_layout_chunks (T_api_Config.Pages c)) (fun (y1 : Int) => (K (.tup [.agg (e_api_Config c ++ [vi (IntKind.wrap IntKind.i64 (3 + T_api_Config.Stripes c)), vi (IntKind.wrap IntKind.i64 (IntKind.wrap IntKind.i64 (3 + T_api_Config.Stripes c) + y1)), vi (IntKind.wrap IntKind.i64 (IntKind.wrap IntKind.i64 (IntKind.wrap IntKind.i64 (3 + T_api_Config.Stripes c) + y1) + T_api_Config.Pages c)), vi (IntKind.wrap IntKind.i64 (IntKind.wrap IntKind.i64 (IntKind.wrap IntKind.i64 (IntKind.wrap IntKind.i64 (3 + T_api_Config.Stripes c) + y1) + T_api_Config.Pages c) + T_api_Config.Pages c)), vi (IntKind.wrap IntKind.i64 (IntKind.wrap IntKind.i64 (IntKind.wrap IntKind.i64 (IntKind.wrap IntKind.i64 (IntKind.wrap IntKind.i64 (3 + T_api_Config.Stripes c) + y1) + T_api_Config.Pages c) + T_api_Config.Pages c) + T_api_Config.Pages c)), vi (IntKind.wrap IntKind.i64 (IntKind.wrap IntKind.i64 (IntKind.wrap IntKind.i64 (IntKind.wrap IntKind.i64 (IntKind.wrap IntKind.i64 (IntKind.wrap IntKind.i64 (3 + T_api_Config.Stripes c) + y1) + T_api_Config.Pages c) + T_api_Config.Pages c) + T_api_Config.Pages c) + T_api_Config.Pages c)), vi (IntKind.wrap IntKind.i64 (IntKind.wrap IntKind.i64 (IntKind.wrap IntKind.i64 (IntKind.wrap IntKind.i64 (IntKind.wrap IntKind.i64 (IntKind.wrap IntKind.i64 (IntKind.wrap IntKind.i64 (3 + T_api_Config.Stripes c) + y1) + T_api_Config.Pages c) + T_api_Config.Pages c) + T_api_Config.Pages c) + T_api_Config.Pages c) + T_api_Config.Pages c)), vi (IntKind.wrap IntKind.i64 (IntKind.wrap IntKind.i64 (IntKind.wrap IntKind.i64 (IntKind.wrap IntKind.i64 (IntKind.wrap IntKind.i64 (IntKind.wrap IntKind.i64 (IntKind.wrap IntKind.i64 (IntKind.wrap IntKind.i64 (3 + T_api_Config.Stripes c) + y1) + T_api_Config.Pages c) + T_api_Config.Pages c) + T_api_Config.Pages c) + T_api_Config.Pages c) + T_api_Config.Pages c) + 62)), vi (IntKind.wrap IntKind.i64 (IntKind.wrap IntKind.i64 (IntKind.wrap IntKind.i64 (IntKind.wrap IntKind.i64 (IntKind.wrap IntKind.i64 (IntKind.wrap IntKind.i64 (IntKind.wrap IntKind.i64 (IntKind.wrap IntKind.i64 (IntKind.wrap IntKind.i64 (3 + T_api_Config.Stripes c) + y1) + T_api_Config.Pages c) + T_api_Config.Pages c) + T_api_Config.Pages c) + T_api_Config.Pages c) + T_api_Config.Pages c) + 62) + IntKind.wrap IntKind.i64 (IntKind.wrap IntKind.i64 (T_api_Config.CPUs c * 5) * IntKind.wrap IntKind.i64 (T_api_Config.Cache c + 1)))), vi (IntKind.wrap IntKind.i64 (IntKind.wrap IntKind.i64 (IntKind.wrap IntKind.i64 (IntKind.wrap IntKind.i64 (IntKind.wrap IntKind.i64 (IntKind.wrap IntKind.i64 (IntKind.wrap IntKind.i64 (IntKind.wrap IntKind.i64 (IntKind.wrap IntKind.i64 (IntKind.wrap IntKind.i64 (3 + T_api_Config.Stripes c) + y1) + T_api_Config.Pages c) + T_api_Config.Pages c) + T_api_Config.Pages c) + T_api_Config.Pages c) + T_api_Config.Pages c) + 62) + IntKind.wrap IntKind.i64 (IntKind.wrap IntKind.i64 (T_api_Config.CPUs c * 5) * IntKind.wrap IntKind.i64 (T_api_Config.Cache c + 1))) + IntKind.wrap IntKind.i64 (5 * IntKind.wrap IntKind.i64 (T_api_Config.Bin c + 1)))), vi (IntKind.wrap IntKind.i64 (IntKind.wrap IntKind.i64 (Int.tdiv (IntKind.wrap IntKind.i64 (IntKind.wrap IntKind.i64 (IntKind.wrap IntKind.i64 (IntKind.wrap IntKind.i64 (IntKind.wrap IntKind.i64 (IntKind.wrap IntKind.i64 (IntKind.wrap IntKind.i64 (IntKind.wrap IntKind.i64 (IntKind.wrap IntKind.i64 (IntKind.wrap IntKind.i64 (IntKind.wrap IntKind.i64 (IntKind.wrap IntKind.i64 (IntKind.wrap IntKind.i64 (3 + T_api_Config.Stripes c) + y1) + T_api_Config.Pages c) + T_api_Config.Pages c) + T_api_Config.Pages c) + T_api_Config.Pages c) + T_api_Config.Pages c) + 62) + IntKind.wrap IntKind.i64 (IntKind.wrap IntKind.i64 (T_api_Config.CPUs c * 5) * IntKind.wrap IntKind.i64 (T_api_Config.Cache c + 1))) + IntKind.wrap IntKind.i64 (5 * IntKind.wrap IntKind.i64 (T_api_Config.Bin c + 1))) + IntKind.wrap IntKind.i64 (T_api_Config.Pages c * 32)) + 128) - 1)) 128) * 128)), vi (IntKind.wrap IntKind.i64 (IntKind.wrap IntKind.i64 (IntKind.wrap IntKind.i64 (Int.tdiv (IntKind.wrap IntKind.i64 (IntKind.wrap IntKind.i64 (IntKind.wrap IntKind.i64 (IntKind.wrap IntKind.i64 (IntKind.wrap IntKind.i64 (IntKind.wrap IntKind.i64 (IntKind.wrap IntKind.i64 (IntKind.wrap IntKind.i64 (IntKind.wrap IntKind.i64 (IntKind.wrap IntKind.i64 (IntKind.wrap IntKind.i64 (IntKind.wrap IntKind.i64 (IntKind.wrap IntKind.i64 (3 + T_api_Config.Stripes c) + y1) + T_api_Config.Pages c) + T_api_Config.Pages c) + T_api_Config.Pages c) + T_api_Config.Pages c) + T_api_Config.Pages c) + 62) + IntKind.wrap IntKind.i64 (IntKind.wrap IntKind.i64 (T_api_Config.CPUs c * 5) * IntKind.wrap IntKind.i64 (T_api_Config.Cache c + 1))) + IntKind.wrap IntKind.i64 (5 * IntKind.wrap IntKind.i64 (T_api_Config.Bin c + 1))) + IntKind.wrap IntKind.i64 (T_api_Config.Pages c * 32)) + 128) - 1)) 128) * 128) + IntKind.wrap IntKind.i64 (T_api_Config.Pages c * 32)))]), vi (0)]) [])))))) := by
  kernel_rfl

noncomputable def m_layout_Layout_Config (l2 : T_layout_Layout) : Option (T_api_Config) :=
  some (((T_layout_Layout.c l2)))

noncomputable def m_layout_Layout_Words (l2 : T_layout_Layout) : Option (Int) :=
  some ((T_layout_Layout.at_11 l2))

noncomputable def m_layout_chunks (pages : Int) : Option (Int) :=
  some ((IntKind.wrap IntKind.i64 (Int.tdiv (IntKind.wrap IntKind.i64 (IntKind.wrap IntKind.i64 (pages + 4) - 1)) 4)))

noncomputable def m_layout_Layout_Chunks (l2 : T_layout_Layout) : Option (Int) :=
  ((m_layout_chunks (T_api_Config.Pages (T_layout_Layout.c l2))).bind fun y0 => some ((y0)))

noncomputable def m_layout_Layout_Table (l2 : T_layout_Layout) (k : Int) : Option (Int) :=
  ((m_layout_Layout_Chunks l2).bind fun y0 => (bif (Decidable.decide (k < 0)) then some ((0)) else (bif (Decidable.decide (k ≥ y0)) then some ((0)) else some ((IntKind.wrap IntKind.i64 (T_layout_Layout.at_0 l2 + k))))))

noncomputable def m_layout_Layout_Kind (l2 : T_layout_Layout) (p : Int) : Option (Int) :=
  (bif (Decidable.decide (p < 0)) then some ((0)) else (bif (Decidable.decide (p ≥ T_api_Config.Pages (T_layout_Layout.c l2))) then some ((0)) else some ((IntKind.wrap IntKind.i64 (T_layout_Layout.at_1 l2 + p)))))

noncomputable def m_layout_Layout_Count (l2 : T_layout_Layout) (p : Int) : Option (Int) :=
  (bif (Decidable.decide (p < 0)) then some ((0)) else (bif (Decidable.decide (p ≥ T_api_Config.Pages (T_layout_Layout.c l2))) then some ((0)) else some ((IntKind.wrap IntKind.i64 (T_layout_Layout.at_2 l2 + p)))))

noncomputable def m_layout_Layout_Bits (l2 : T_layout_Layout) (p : Int) : Option (Int) :=
  (bif (Decidable.decide (p < 0)) then some ((0)) else (bif (Decidable.decide (p ≥ T_api_Config.Pages (T_layout_Layout.c l2))) then some ((0)) else some ((IntKind.wrap IntKind.i64 (T_layout_Layout.at_3 l2 + p)))))

noncomputable def m_layout_limit_holds (xv : T_layout_limit) : Option (Bool) :=
  (bif (Decidable.decide (T_layout_limit.n xv ≥ T_layout_limit.low xv)) then some ((Decidable.decide (T_layout_limit.n xv ≤ T_layout_limit.high xv))) else some ((Bool.false)))

noncomputable def m_layout_Check (c : T_api_Config) : Option (Int) :=
  ((m_layout_limit_holds (T_layout_limit.mk (T_api_Config.Workers c) 1 64)).bind fun y0 => (bif (!y0) then some ((2)) else ((m_layout_limit_holds (T_layout_limit.mk (T_api_Config.CPUs c) 1 8)).bind fun y1 => (bif (!y1) then some ((2)) else ((m_layout_limit_holds (T_layout_limit.mk (T_api_Config.Pages c) 1 256)).bind fun y2 => (bif (!y2) then some ((2)) else ((m_layout_limit_holds (T_layout_limit.mk (T_api_Config.Stripes c) 1 64)).bind fun y3 => (bif (!y3) then some ((2)) else ((m_layout_limit_holds (T_layout_limit.mk (T_api_Config.Tries c) 0 16)).bind fun y4 => (bif (!y4) then some ((2)) else ((m_layout_limit_holds (T_layout_limit.mk (T_api_Config.Wait c) 0 64)).bind fun y5 => (bif (!y5) then some ((2)) else ((m_layout_limit_holds (T_layout_limit.mk (T_api_Config.Clock c) 1 1099511627776)).bind fun y6 => (bif (!y6) then some ((2)) else ((m_layout_limit_holds (T_layout_limit.mk (T_api_Config.Private c) 1 8)).bind fun y7 => (bif (!y7) then some ((2)) else ((m_layout_limit_holds (T_layout_limit.mk (T_api_Config.Cache c) 0 8)).bind fun y8 => (bif (!y8) then some ((2)) else ((m_layout_limit_holds (T_layout_limit.mk (T_api_Config.Bin c) 0 16)).bind fun y9 => (bif (!y9) then some ((2)) else ((m_layout_limit_holds (T_layout_limit.mk (T_api_Config.Batch c) 1 8)).bind fun y10 => (bif (!y10) then some ((2)) else some ((0))))))))))))))))))))))))

noncomputable def m_layout_Of (c : T_api_Config) : Option (T_layout_Layout × Int) :=
  ((m_layout_Check c).bind fun y0 => (bif (y0 != 0) then some ((((T_layout_Layout.mk (T_api_Config.mk (0) (0) (0) (0) (0) (0) (0) (0) (0) (0) (0)) (0) (0) (0) (0) (0) (0) (0) (0) (0) (0) (0) (0))), (y0))) else ((m_layout_chunks (T_api_Config.Pages c)).bind fun y1 => some ((((T_layout_Layout.mk (c) (IntKind.wrap IntKind.i64 (3 + T_api_Config.Stripes c)) (IntKind.wrap IntKind.i64 (IntKind.wrap IntKind.i64 (3 + T_api_Config.Stripes c) + y1)) (IntKind.wrap IntKind.i64 (IntKind.wrap IntKind.i64 (IntKind.wrap IntKind.i64 (3 + T_api_Config.Stripes c) + y1) + T_api_Config.Pages c)) (IntKind.wrap IntKind.i64 (IntKind.wrap IntKind.i64 (IntKind.wrap IntKind.i64 (IntKind.wrap IntKind.i64 (3 + T_api_Config.Stripes c) + y1) + T_api_Config.Pages c) + T_api_Config.Pages c)) (IntKind.wrap IntKind.i64 (IntKind.wrap IntKind.i64 (IntKind.wrap IntKind.i64 (IntKind.wrap IntKind.i64 (IntKind.wrap IntKind.i64 (3 + T_api_Config.Stripes c) + y1) + T_api_Config.Pages c) + T_api_Config.Pages c) + T_api_Config.Pages c)) (IntKind.wrap IntKind.i64 (IntKind.wrap IntKind.i64 (IntKind.wrap IntKind.i64 (IntKind.wrap IntKind.i64 (IntKind.wrap IntKind.i64 (IntKind.wrap IntKind.i64 (3 + T_api_Config.Stripes c) + y1) + T_api_Config.Pages c) + T_api_Config.Pages c) + T_api_Config.Pages c) + T_api_Config.Pages c)) (IntKind.wrap IntKind.i64 (IntKind.wrap IntKind.i64 (IntKind.wrap IntKind.i64 (IntKind.wrap IntKind.i64 (IntKind.wrap IntKind.i64 (IntKind.wrap IntKind.i64 (IntKind.wrap IntKind.i64 (3 + T_api_Config.Stripes c) + y1) + T_api_Config.Pages c) + T_api_Config.Pages c) + T_api_Config.Pages c) + T_api_Config.Pages c) + T_api_Config.Pages c)) (IntKind.wrap IntKind.i64 (IntKind.wrap IntKind.i64 (IntKind.wrap IntKind.i64 (IntKind.wrap IntKind.i64 (IntKind.wrap IntKind.i64 (IntKind.wrap IntKind.i64 (IntKind.wrap IntKind.i64 (IntKind.wrap IntKind.i64 (3 + T_api_Config.Stripes c) + y1) + T_api_Config.Pages c) + T_api_Config.Pages c) + T_api_Config.Pages c) + T_api_Config.Pages c) + T_api_Config.Pages c) + 62)) (IntKind.wrap IntKind.i64 (IntKind.wrap IntKind.i64 (IntKind.wrap IntKind.i64 (IntKind.wrap IntKind.i64 (IntKind.wrap IntKind.i64 (IntKind.wrap IntKind.i64 (IntKind.wrap IntKind.i64 (IntKind.wrap IntKind.i64 (IntKind.wrap IntKind.i64 (3 + T_api_Config.Stripes c) + y1) + T_api_Config.Pages c) + T_api_Config.Pages c) + T_api_Config.Pages c) + T_api_Config.Pages c) + T_api_Config.Pages c) + 62) + IntKind.wrap IntKind.i64 (IntKind.wrap IntKind.i64 (T_api_Config.CPUs c * 5) * IntKind.wrap IntKind.i64 (T_api_Config.Cache c + 1)))) (IntKind.wrap IntKind.i64 (IntKind.wrap IntKind.i64 (IntKind.wrap IntKind.i64 (IntKind.wrap IntKind.i64 (IntKind.wrap IntKind.i64 (IntKind.wrap IntKind.i64 (IntKind.wrap IntKind.i64 (IntKind.wrap IntKind.i64 (IntKind.wrap IntKind.i64 (IntKind.wrap IntKind.i64 (3 + T_api_Config.Stripes c) + y1) + T_api_Config.Pages c) + T_api_Config.Pages c) + T_api_Config.Pages c) + T_api_Config.Pages c) + T_api_Config.Pages c) + 62) + IntKind.wrap IntKind.i64 (IntKind.wrap IntKind.i64 (T_api_Config.CPUs c * 5) * IntKind.wrap IntKind.i64 (T_api_Config.Cache c + 1))) + IntKind.wrap IntKind.i64 (5 * IntKind.wrap IntKind.i64 (T_api_Config.Bin c + 1)))) (IntKind.wrap IntKind.i64 (IntKind.wrap IntKind.i64 (Int.tdiv (IntKind.wrap IntKind.i64 (IntKind.wrap IntKind.i64 (IntKind.wrap IntKind.i64 (IntKind.wrap IntKind.i64 (IntKind.wrap IntKind.i64 (IntKind.wrap IntKind.i64 (IntKind.wrap IntKind.i64 (IntKind.wrap IntKind.i64 (IntKind.wrap IntKind.i64 (IntKind.wrap IntKind.i64 (IntKind.wrap IntKind.i64 (IntKind.wrap IntKind.i64 (IntKind.wrap IntKind.i64 (3 + T_api_Config.Stripes c) + y1) + T_api_Config.Pages c) + T_api_Config.Pages c) + T_api_Config.Pages c) + T_api_Config.Pages c) + T_api_Config.Pages c) + 62) + IntKind.wrap IntKind.i64 (IntKind.wrap IntKind.i64 (T_api_Config.CPUs c * 5) * IntKind.wrap IntKind.i64 (T_api_Config.Cache c + 1))) + IntKind.wrap IntKind.i64 (5 * IntKind.wrap IntKind.i64 (T_api_Config.Bin c + 1))) + IntKind.wrap IntKind.i64 (T_api_Config.Pages c * 32)) + 128) - 1)) 128) * 128)) (IntKind.wrap IntKind.i64 (IntKind.wrap IntKind.i64 (IntKind.wrap IntKind.i64 (Int.tdiv (IntKind.wrap IntKind.i64 (IntKind.wrap IntKind.i64 (IntKind.wrap IntKind.i64 (IntKind.wrap IntKind.i64 (IntKind.wrap IntKind.i64 (IntKind.wrap IntKind.i64 (IntKind.wrap IntKind.i64 (IntKind.wrap IntKind.i64 (IntKind.wrap IntKind.i64 (IntKind.wrap IntKind.i64 (IntKind.wrap IntKind.i64 (IntKind.wrap IntKind.i64 (IntKind.wrap IntKind.i64 (3 + T_api_Config.Stripes c) + y1) + T_api_Config.Pages c) + T_api_Config.Pages c) + T_api_Config.Pages c) + T_api_Config.Pages c) + T_api_Config.Pages c) + 62) + IntKind.wrap IntKind.i64 (IntKind.wrap IntKind.i64 (T_api_Config.CPUs c * 5) * IntKind.wrap IntKind.i64 (T_api_Config.Cache c + 1))) + IntKind.wrap IntKind.i64 (5 * IntKind.wrap IntKind.i64 (T_api_Config.Bin c + 1))) + IntKind.wrap IntKind.i64 (T_api_Config.Pages c * 32)) + 128) - 1)) 128) * 128) + IntKind.wrap IntKind.i64 (T_api_Config.Pages c * 32))))), (0))))))

attribute [local irreducible] Loop ex exF contK roundK retK at_ bodyOf mkEnv
theorem ok_layout_Layout_Config : SpecOK Try.prog elTT 27 (sp_layout_Layout_Config m_layout_Layout_Config) := by
  refine spec_of_exF (cfg := cfg_layout_Layout_Config) (cfg_ok rfl rfl rfl) sig_nil (fn := Try.f27) (by kernel_rfl) (by kernel_rfl) (by kernel_rfl) ?_
  intro args H K h
  change tr_layout_Layout_Config m_layout_Layout_Config args H K at h
  unfold tr_layout_Layout_Config at h
  replace h := aC_el h
  obtain ⟨a0, _, rfl, h⟩ := h
  replace h := aN_el h
  obtain ⟨rfl, h⟩ := h
  replace h := aAgg_el h
  obtain ⟨c0, rfl, h⟩ := h
  replace h := d_layout_Layout_el h
  obtain ⟨l2, rfl, h⟩ := h
  replace h := aN_el h
  obtain ⟨rfl, h⟩ := h
  refine Eq.mpr (nf_layout_Layout_Config l2 K) ?_
  unfold m_layout_Layout_Config at h
  revert h
  exact fun h => h

theorem ok_layout_Layout_Words : SpecOK Try.prog elTT 69 (sp_layout_Layout_Words m_layout_Layout_Words) := by
  refine spec_of_exF (cfg := cfg_layout_Layout_Words) (cfg_ok rfl rfl rfl) sig_nil (fn := Try.f69) (by kernel_rfl) (by kernel_rfl) (by kernel_rfl) ?_
  intro args H K h
  change tr_layout_Layout_Words m_layout_Layout_Words args H K at h
  unfold tr_layout_Layout_Words at h
  replace h := aC_el h
  obtain ⟨a0, _, rfl, h⟩ := h
  replace h := aN_el h
  obtain ⟨rfl, h⟩ := h
  replace h := aAgg_el h
  obtain ⟨c0, rfl, h⟩ := h
  replace h := d_layout_Layout_el h
  obtain ⟨l2, rfl, h⟩ := h
  replace h := aN_el h
  obtain ⟨rfl, h⟩ := h
  refine Eq.mpr (nf_layout_Layout_Words l2 K) ?_
  unfold m_layout_Layout_Words at h
  revert h
  exact fun h => h

theorem ok_layout_chunks : SpecOK Try.prog elTT 83 (sp_layout_chunks m_layout_chunks) := by
  refine spec_of_exF (cfg := cfg_layout_chunks) (cfg_ok rfl rfl rfl) sig_nil (fn := Try.f83) (by kernel_rfl) (by kernel_rfl) (by kernel_rfl) ?_
  intro args H K h
  change tr_layout_chunks m_layout_chunks args H K at h
  unfold tr_layout_chunks at h
  replace h := aC_el h
  obtain ⟨a0, _, rfl, h⟩ := h
  replace h := aN_el h
  obtain ⟨rfl, h⟩ := h
  replace h := aInt_el h
  obtain ⟨pages, rfl, h⟩ := h
  replace h := aN_el h
  obtain ⟨rfl, h⟩ := h
  refine Eq.mpr (nf_layout_chunks pages K) ?_
  unfold m_layout_chunks at h
  revert h
  exact fun h => h

theorem ok_layout_Layout_Chunks : SpecOK Try.prog elTT 30 (sp_layout_Layout_Chunks m_layout_Layout_Chunks) := by
  refine spec_of_exF (cfg := (cfg_layout_Layout_Chunks m_layout_chunks)) (cfg_ok rfl rfl rfl) (sig_cons ok_layout_chunks sig_nil) (fn := Try.f30) (by kernel_rfl) (by kernel_rfl) (by kernel_rfl) ?_
  intro args H K h
  change tr_layout_Layout_Chunks m_layout_Layout_Chunks args H K at h
  unfold tr_layout_Layout_Chunks at h
  replace h := aC_el h
  obtain ⟨a0, _, rfl, h⟩ := h
  replace h := aN_el h
  obtain ⟨rfl, h⟩ := h
  replace h := aAgg_el h
  obtain ⟨c0, rfl, h⟩ := h
  replace h := d_layout_Layout_el h
  obtain ⟨l2, rfl, h⟩ := h
  replace h := aN_el h
  obtain ⟨rfl, h⟩ := h
  refine Eq.mpr (nf_layout_Layout_Chunks m_layout_chunks l2 K) ?_
  unfold m_layout_Layout_Chunks at h
  revert h
  exact bind_So fun y0 => fun h => h

theorem ok_layout_Layout_Table : SpecOK Try.prog elTT 31 (sp_layout_Layout_Table m_layout_Layout_Table) := by
  refine spec_of_exF (cfg := (cfg_layout_Layout_Table m_layout_Layout_Chunks)) (cfg_ok rfl rfl rfl) (sig_cons ok_layout_Layout_Chunks (sig_cons (inlS_ok (cfg := cfgB) (cfg_ok rfl rfl rfl) (nosig rfl) (by kernel_rfl) (by kernel_rfl) (by kernel_rfl)) sig_nil)) (fn := Try.f31) (by kernel_rfl) (by kernel_rfl) (by kernel_rfl) ?_
  intro args H K h
  change tr_layout_Layout_Table m_layout_Layout_Table args H K at h
  unfold tr_layout_Layout_Table at h
  replace h := aC_el h
  obtain ⟨a0, _, rfl, h⟩ := h
  replace h := aC_el h
  obtain ⟨a1, _, rfl, h⟩ := h
  replace h := aN_el h
  obtain ⟨rfl, h⟩ := h
  replace h := aAgg_el h
  obtain ⟨c0, rfl, h⟩ := h
  replace h := d_layout_Layout_el h
  obtain ⟨l2, rfl, h⟩ := h
  replace h := aInt_el h
  obtain ⟨k, rfl, h⟩ := h
  replace h := aN_el h
  obtain ⟨rfl, h⟩ := h
  refine Eq.mpr (nf_layout_Layout_Table m_layout_Layout_Chunks l2 k K) ?_
  unfold m_layout_Layout_Table at h
  revert h
  exact bind_So fun y0 => br_So (fun h => h) (br_So (fun h => h) (fun h => h))

theorem ok_layout_Layout_Kind : SpecOK Try.prog elTT 99 (sp_layout_Layout_Kind m_layout_Layout_Kind) := by
  refine spec_of_exF (cfg := cfg_layout_Layout_Kind) (cfg_ok rfl rfl rfl) (sig_cons (inlS_ok (cfg := cfgB) (cfg_ok rfl rfl rfl) (nosig rfl) (by kernel_rfl) (by kernel_rfl) (by kernel_rfl)) sig_nil) (fn := Try.f99) (by kernel_rfl) (by kernel_rfl) (by kernel_rfl) ?_
  intro args H K h
  change tr_layout_Layout_Kind m_layout_Layout_Kind args H K at h
  unfold tr_layout_Layout_Kind at h
  replace h := aC_el h
  obtain ⟨a0, _, rfl, h⟩ := h
  replace h := aC_el h
  obtain ⟨a1, _, rfl, h⟩ := h
  replace h := aN_el h
  obtain ⟨rfl, h⟩ := h
  replace h := aAgg_el h
  obtain ⟨c0, rfl, h⟩ := h
  replace h := d_layout_Layout_el h
  obtain ⟨l2, rfl, h⟩ := h
  replace h := aInt_el h
  obtain ⟨p, rfl, h⟩ := h
  replace h := aN_el h
  obtain ⟨rfl, h⟩ := h
  refine Eq.mpr (nf_layout_Layout_Kind l2 p K) ?_
  unfold m_layout_Layout_Kind at h
  revert h
  exact br_So (fun h => h) (br_So (fun h => h) (fun h => h))

theorem ok_layout_Layout_Count : SpecOK Try.prog elTT 147 (sp_layout_Layout_Count m_layout_Layout_Count) := by
  refine spec_of_exF (cfg := cfg_layout_Layout_Count) (cfg_ok rfl rfl rfl) (sig_cons (inlS_ok (cfg := cfgB) (cfg_ok rfl rfl rfl) (nosig rfl) (by kernel_rfl) (by kernel_rfl) (by kernel_rfl)) sig_nil) (fn := Try.f147) (by kernel_rfl) (by kernel_rfl) (by kernel_rfl) ?_
  intro args H K h
  change tr_layout_Layout_Count m_layout_Layout_Count args H K at h
  unfold tr_layout_Layout_Count at h
  replace h := aC_el h
  obtain ⟨a0, _, rfl, h⟩ := h
  replace h := aC_el h
  obtain ⟨a1, _, rfl, h⟩ := h
  replace h := aN_el h
  obtain ⟨rfl, h⟩ := h
  replace h := aAgg_el h
  obtain ⟨c0, rfl, h⟩ := h
  replace h := d_layout_Layout_el h
  obtain ⟨l2, rfl, h⟩ := h
  replace h := aInt_el h
  obtain ⟨p, rfl, h⟩ := h
  replace h := aN_el h
  obtain ⟨rfl, h⟩ := h
  refine Eq.mpr (nf_layout_Layout_Count l2 p K) ?_
  unfold m_layout_Layout_Count at h
  revert h
  exact br_So (fun h => h) (br_So (fun h => h) (fun h => h))

theorem ok_layout_Layout_Bits : SpecOK Try.prog elTT 148 (sp_layout_Layout_Bits m_layout_Layout_Bits) := by
  refine spec_of_exF (cfg := cfg_layout_Layout_Bits) (cfg_ok rfl rfl rfl) (sig_cons (inlS_ok (cfg := cfgB) (cfg_ok rfl rfl rfl) (nosig rfl) (by kernel_rfl) (by kernel_rfl) (by kernel_rfl)) sig_nil) (fn := Try.f148) (by kernel_rfl) (by kernel_rfl) (by kernel_rfl) ?_
  intro args H K h
  change tr_layout_Layout_Bits m_layout_Layout_Bits args H K at h
  unfold tr_layout_Layout_Bits at h
  replace h := aC_el h
  obtain ⟨a0, _, rfl, h⟩ := h
  replace h := aC_el h
  obtain ⟨a1, _, rfl, h⟩ := h
  replace h := aN_el h
  obtain ⟨rfl, h⟩ := h
  replace h := aAgg_el h
  obtain ⟨c0, rfl, h⟩ := h
  replace h := d_layout_Layout_el h
  obtain ⟨l2, rfl, h⟩ := h
  replace h := aInt_el h
  obtain ⟨p, rfl, h⟩ := h
  replace h := aN_el h
  obtain ⟨rfl, h⟩ := h
  refine Eq.mpr (nf_layout_Layout_Bits l2 p K) ?_
  unfold m_layout_Layout_Bits at h
  revert h
  exact br_So (fun h => h) (br_So (fun h => h) (fun h => h))

theorem ok_layout_limit_holds : SpecOK Try.prog elTT 149 (sp_layout_limit_holds m_layout_limit_holds) := by
  refine spec_of_exF (cfg := cfg_layout_limit_holds) (cfg_ok rfl rfl rfl) sig_nil (fn := Try.f149) (by kernel_rfl) (by kernel_rfl) (by kernel_rfl) ?_
  intro args H K h
  change tr_layout_limit_holds m_layout_limit_holds args H K at h
  unfold tr_layout_limit_holds at h
  replace h := aC_el h
  obtain ⟨a0, _, rfl, h⟩ := h
  replace h := aN_el h
  obtain ⟨rfl, h⟩ := h
  replace h := aAgg_el h
  obtain ⟨c0, rfl, h⟩ := h
  replace h := d_layout_limit_el h
  obtain ⟨xv, rfl, h⟩ := h
  replace h := aN_el h
  obtain ⟨rfl, h⟩ := h
  refine Eq.mpr (nf_layout_limit_holds xv K) ?_
  unfold m_layout_limit_holds at h
  revert h
  exact br_So (fun h => h) (fun h => h)

theorem ok_layout_Check : SpecOK Try.prog elTT 118 (sp_layout_Check m_layout_Check) := by
  refine spec_of_exF (cfg := (cfg_layout_Check m_layout_limit_holds)) (cfg_ok rfl rfl rfl) (sig_cons ok_layout_limit_holds sig_nil) (fn := Try.f118) (by kernel_rfl) (by kernel_rfl) (by kernel_rfl) ?_
  intro args H K h
  change tr_layout_Check m_layout_Check args H K at h
  unfold tr_layout_Check at h
  replace h := aC_el h
  obtain ⟨a0, _, rfl, h⟩ := h
  replace h := aN_el h
  obtain ⟨rfl, h⟩ := h
  replace h := aAgg_el h
  obtain ⟨c0, rfl, h⟩ := h
  replace h := d_api_Config_el h
  obtain ⟨c, rfl, h⟩ := h
  replace h := aN_el h
  obtain ⟨rfl, h⟩ := h
  refine Eq.mpr (nf_layout_Check m_layout_limit_holds c K) ?_
  unfold m_layout_Check at h
  revert h
  exact bind_So fun y0 => br_So (fun h => h) (bind_So fun y1 => br_So (fun h => h) (bind_So fun y2 => br_So (fun h => h) (bind_So fun y3 => br_So (fun h => h) (bind_So fun y4 => br_So (fun h => h) (bind_So fun y5 => br_So (fun h => h) (bind_So fun y6 => br_So (fun h => h) (bind_So fun y7 => br_So (fun h => h) (bind_So fun y8 => br_So (fun h => h) (bind_So fun y9 => br_So (fun h => h) (bind_So fun y10 => br_So (fun h => h) (fun h => h)))))))))))

theorem ok_layout_Of : SpecOK Try.prog elTT 68 (sp_layout_Of m_layout_Of) := by
  refine spec_of_exF (cfg := (cfg_layout_Of m_layout_Check m_layout_chunks)) (cfg_ok rfl rfl rfl) (sig_cons ok_layout_Check (sig_cons ok_layout_chunks sig_nil)) (fn := Try.f68) (by kernel_rfl) (by kernel_rfl) (by kernel_rfl) ?_
  intro args H K h
  change tr_layout_Of m_layout_Of args H K at h
  unfold tr_layout_Of at h
  replace h := aC_el h
  obtain ⟨a0, _, rfl, h⟩ := h
  replace h := aN_el h
  obtain ⟨rfl, h⟩ := h
  replace h := aAgg_el h
  obtain ⟨c0, rfl, h⟩ := h
  replace h := d_api_Config_el h
  obtain ⟨c, rfl, h⟩ := h
  replace h := aN_el h
  obtain ⟨rfl, h⟩ := h
  refine Eq.mpr (nf_layout_Of m_layout_Check m_layout_chunks c K) ?_
  unfold m_layout_Of at h
  revert h
  exact bind_So fun y0 => br_So (fun h => h) (bind_So fun y1 => fun h => h)

end Go.Rx
end

section
/- Contracts. -/
namespace Go.Rx
open Go.Proofs
set_option maxRecDepth 100000
set_option maxHeartbeats 4000000
/-! assart/chunk.Of -/
def tr_chunk_Of (m_ : Int → Option (Int)) (args : List V) (H : Heap) (K : V → Heap → Prop) : Prop :=
  aC args fun a0 r => aN r <| aInt a0 fun p => aN H <| So (m_ p) fun x => K (vi (x)) []
def sp_chunk_Of (m_ : Int → Option (Int)) : Spec := ⟨tr_chunk_Of m_, (true : Bool)⟩

/-! (assart/chunk.one).there -/
def tr_chunk_one_there (m_ : T_chunk_one → Option (Bool)) (args : List V) (H : Heap) (K : V → Heap → Prop) : Prop :=
  aC args fun a0 r => aN r <| aAgg a0 fun c0 => d_chunk_one c0 fun xv => aN H <| So (m_ xv) fun x => K (vb (x)) []
def sp_chunk_one_there (m_ : T_chunk_one → Option (Bool)) : Spec := ⟨tr_chunk_one_there m_, (true : Bool)⟩

/-! (assart/chunk.one).pages -/
def tr_chunk_one_pages (m_ : T_chunk_one → Option (Int × Int)) (args : List V) (H : Heap) (K : V → Heap → Prop) : Prop :=
  aC args fun a0 r => aN r <| aAgg a0 fun c0 => d_chunk_one c0 fun xv => aN H <| So (m_ xv) fun x => K (.tup [vi (x.1), vi (x.2)]) []
def sp_chunk_one_pages (m_ : T_chunk_one → Option (Int × Int)) : Spec := ⟨tr_chunk_one_pages m_, (true : Bool)⟩

/-! assart/chunk.Pages -/
def tr_chunk_Pages (m_ : T_layout_Layout → Int → Option (Int × Int)) (args : List V) (H : Heap) (K : V → Heap → Prop) : Prop :=
  aC args fun a0 r => aC r fun a1 r => aN r <| aAgg a0 fun c0 => d_layout_Layout c0 fun l2 => aInt a1 fun k => aN H <| So (m_ l2 k) fun x => K (.tup [vi (x.1), vi (x.2)]) []
def sp_chunk_Pages (m_ : T_layout_Layout → Int → Option (Int × Int)) : Spec := ⟨tr_chunk_Pages m_, (true : Bool)⟩

/-! assart/chunk.span -/
def tr_chunk_span (m_ : T_layout_Layout → Int → Int → Option (Int × Int × Bool)) (args : List V) (H : Heap) (K : V → Heap → Prop) : Prop :=
  aC args fun a0 r => aC r fun a1 r => aC r fun a2 r => aN r <| aAgg a0 fun c0 => d_layout_Layout c0 fun l2 => aInt a1 fun p => aInt a2 fun n => aN H <| So (m_ l2 p n) fun x => K (.tup [vi (x.1), vi (x.2.1), vb (x.2.2)]) []
def sp_chunk_span (m_ : T_layout_Layout → Int → Int → Option (Int × Int × Bool)) : Spec := ⟨tr_chunk_span m_, (true : Bool)⟩

/-! (assart/chunk.one).is -/
def tr_chunk_one_is (m_ : Nat → (List Int) → T_chunk_one → Int → Option (Bool)) (args : List V) (H : Heap) (K : V → Heap → Prop) : Prop :=
  aC args fun a0 r => aC r fun a1 r => aC r fun a2 r => aN r <| aAgg a0 fun c0 => d_chunk_one c0 fun xv => aPtr 0 a1 <| aInt a2 fun state => aC H fun b0 r => aC r fun b1 r => aN r <| bView 1 b0 fun ws cur xs => bRow 0 true b1 fun (l : List Int) => ws = l ∧ xs.length ≤ 2 ∧ So (m_ (ws.length) cur xv state) fun x => K (vb (x)) [.pk 0 [ws, cur] xs [.row 1], .row 0 l true]
def sp_chunk_one_is (m_ : Nat → (List Int) → T_chunk_one → Int → Option (Bool)) : Spec := ⟨tr_chunk_one_is m_, (true : Bool)⟩

/-! (assart/chunk.one).turn -/
def tr_chunk_one_turn (m_ : Nat → (List Int) → T_chunk_one → Int → Option (Bool × (List Int))) (args : List V) (H : Heap) (K : V → Heap → Prop) : Prop :=
  aC args fun a0 r => aC r fun a1 r => aC r fun a2 r => aN r <| aAgg a0 fun c0 => d_chunk_one c0 fun xv => aPtr 0 a1 <| aInt a2 fun state => aC H fun b0 r => aC r fun b1 r => aN r <| bView 1 b0 fun ws cur xs => bRow 0 true b1 fun (l : List Int) => ws = l ∧ xs.length ≤ 2 ∧ So (m_ (ws.length) cur xv state) fun x => K (vb (x.1)) [.pk 0 [ws, x.2] xs [.row 1], .row 0 l true]
def sp_chunk_one_turn (m_ : Nat → (List Int) → T_chunk_one → Int → Option (Bool × (List Int))) : Spec := ⟨tr_chunk_one_turn m_, (true : Bool)⟩

/-! assart/chunk.Map -/
def tr_chunk_Map (m_ : Nat → (List Int) → T_layout_Layout → Int → Option (Bool × (List Int))) (args : List V) (H : Heap) (K : V → Heap → Prop) : Prop :=
  aC args fun a0 r => aC r fun a1 r => aC r fun a2 r => aN r <| aPtr 0 a0 <| aAgg a1 fun c1 => d_layout_Layout c1 fun l2 => aInt a2 fun k => aC H fun b0 r => aC r fun b1 r => aN r <| bView 1 b0 fun ws cur xs => bRow 0 true b1 fun (l : List Int) => ws = l ∧ xs.length ≤ 2 ∧ So (m_ (ws.length) cur l2 k) fun x => K (vb (x.1)) [.pk 0 [ws, x.2] xs [.row 1], .row 0 l true]
def sp_chunk_Map (m_ : Nat → (List Int) → T_layout_Layout → Int → Option (Bool × (List Int))) : Spec := ⟨tr_chunk_Map m_, (true : Bool)⟩

/-! assart/chunk.Unmap -/
def tr_chunk_Unmap (m_ : Nat → (List Int) → T_layout_Layout → Int → Option (Bool × (List Int))) (args : List V) (H : Heap) (K : V → Heap → Prop) : Prop :=
  aC args fun a0 r => aC r fun a1 r => aC r fun a2 r => aN r <| aPtr 0 a0 <| aAgg a1 fun c1 => d_layout_Layout c1 fun l2 => aInt a2 fun k => aC H fun b0 r => aC r fun b1 r => aN r <| bView 1 b0 fun ws cur xs => bRow 0 true b1 fun (l : List Int) => ws = l ∧ xs.length ≤ 2 ∧ So (m_ (ws.length) cur l2 k) fun x => K (vb (x.1)) [.pk 0 [ws, x.2] xs [.row 1], .row 0 l true]
def sp_chunk_Unmap (m_ : Nat → (List Int) → T_layout_Layout → Int → Option (Bool × (List Int))) : Spec := ⟨tr_chunk_Unmap m_, (true : Bool)⟩

/-! assart/chunk.Mapped -/
def tr_chunk_Mapped (m_ : Nat → (List Int) → T_layout_Layout → Int → Option (Bool)) (args : List V) (H : Heap) (K : V → Heap → Prop) : Prop :=
  aC args fun a0 r => aC r fun a1 r => aC r fun a2 r => aN r <| aPtr 0 a0 <| aAgg a1 fun c1 => d_layout_Layout c1 fun l2 => aInt a2 fun k => aC H fun b0 r => aC r fun b1 r => aN r <| bView 1 b0 fun ws cur xs => bRow 0 true b1 fun (l : List Int) => ws = l ∧ xs.length ≤ 2 ∧ So (m_ (ws.length) cur l2 k) fun x => K (vb (x)) [.pk 0 [ws, cur] xs [.row 1], .row 0 l true]
def sp_chunk_Mapped (m_ : Nat → (List Int) → T_layout_Layout → Int → Option (Bool)) : Spec := ⟨tr_chunk_Mapped m_, (true : Bool)⟩

/-! assart/chunk.Covers -/
/-! assart/chunk.Ensure -/
def tr_chunk_Ensure (m_ : Nat → (List Int) → T_layout_Layout → Int → Int → Option (Int × (List Int))) (args : List V) (H : Heap) (K : V → Heap → Prop) : Prop :=
  aC args fun a0 r => aC r fun a1 r => aC r fun a2 r => aC r fun a3 r => aN r <| aPtr 0 a0 <| aAgg a1 fun c1 => d_layout_Layout c1 fun l2 => aInt a2 fun p => aInt a3 fun n => aC H fun b0 r => aC r fun b1 r => aN r <| bView 1 b0 fun ws cur xs => bRow 0 true b1 fun (l : List Int) => ws = l ∧ xs.length ≤ 2 ∧ So (m_ (ws.length) cur l2 p n) fun x => K (vi (x.1)) [.pk 0 [ws, x.2] xs [.row 1], .row 0 l true]
def sp_chunk_Ensure (m_ : Nat → (List Int) → T_layout_Layout → Int → Int → Option (Int × (List Int))) : Spec := ⟨tr_chunk_Ensure m_, (true : Bool)⟩

/-! assart/chunk.Count -/
noncomputable def cfg_chunk_Of  : Cfg := { cfgB with
  sigs := sigN }

noncomputable def cfg_chunk_one_there (m_layout_Layout_Chunks : T_layout_Layout → Option (Int)) : Cfg := { cfgB with
  sigs := (sigC 30 (sp_layout_Layout_Chunks m_layout_Layout_Chunks) sigN),
  plan := fun r => match r with | 1 => some (List.range 12, 0) | _ => none }

noncomputable def cfg_chunk_one_pages (m_chunk_one_there : T_chunk_one → Option (Bool)) (m_layout_Layout_Config : T_layout_Layout → Option (T_api_Config)) : Cfg := { cfgB with
  sigs := (sigC 128 (sp_chunk_one_there m_chunk_one_there) (sigC 27 (sp_layout_Layout_Config m_layout_Layout_Config) sigN)) }

noncomputable def cfg_chunk_Pages (m_chunk_one_pages : T_chunk_one → Option (Int × Int)) : Cfg := { cfgB with
  sigs := (sigC 80 (sp_chunk_one_pages m_chunk_one_pages) sigN) }

noncomputable def cfg_chunk_span (m_layout_Layout_Config : T_layout_Layout → Option (T_api_Config)) (m_chunk_Of : Int → Option (Int)) : Cfg := { cfgB with
  sigs := (sigC 27 (sp_layout_Layout_Config m_layout_Layout_Config) (sigC 111 (sp_chunk_Of m_chunk_Of) sigN)) }

noncomputable def cfg_chunk_one_is (m_chunk_one_there : T_chunk_one → Option (Bool)) (m_layout_Layout_Table : T_layout_Layout → Int → Option (Int)) : Cfg := { cfgB with
  sigs := (sigC 128 (sp_chunk_one_there m_chunk_one_there) (sigC 31 (sp_layout_Layout_Table m_layout_Layout_Table) (sigC 90 rdS sigN))) }

noncomputable def cfg_chunk_one_turn (m_chunk_one_there : T_chunk_one → Option (Bool)) (m_chunk_one_is : Nat → (List Int) → T_chunk_one → Int → Option (Bool)) (m_layout_Layout_Table : T_layout_Layout → Int → Option (Int)) : Cfg := { cfgB with
  sigs := (sigC 128 (sp_chunk_one_there m_chunk_one_there) (sigC 117 (sp_chunk_one_is m_chunk_one_is) (sigC 31 (sp_layout_Layout_Table m_layout_Layout_Table) (sigC 91 wrS sigN)))) }

noncomputable def cfg_chunk_Map (m_chunk_one_turn : Nat → (List Int) → T_chunk_one → Int → Option (Bool × (List Int))) : Cfg := { cfgB with
  sigs := (sigC 81 (sp_chunk_one_turn m_chunk_one_turn) sigN) }

noncomputable def cfg_chunk_Unmap (m_chunk_one_turn : Nat → (List Int) → T_chunk_one → Int → Option (Bool × (List Int))) : Cfg := { cfgB with
  sigs := (sigC 81 (sp_chunk_one_turn m_chunk_one_turn) sigN) }

noncomputable def cfg_chunk_Mapped (m_chunk_one_is : Nat → (List Int) → T_chunk_one → Int → Option (Bool)) : Cfg := { cfgB with
  sigs := (sigC 117 (sp_chunk_one_is m_chunk_one_is) sigN) }

noncomputable def cfg_chunk_Ensure (m_chunk_span : T_layout_Layout → Int → Int → Option (Int × Int × Bool)) (m_chunk_Map : Nat → (List Int) → T_layout_Layout → Int → Option (Bool × (List Int))) (m_chunk_Pages : T_layout_Layout → Int → Option (Int × Int)) : Cfg := { cfgB with
  sigs := (sigC 82 (sp_chunk_span m_chunk_span) (sigC 24 (sp_chunk_Map m_chunk_Map) (sigC 23 (sp_chunk_Pages m_chunk_Pages) sigN))),
  keep := fun r => match r with | 4 => some [(0, none), (5, none), (10, none), (11, none), (12, none), (13, none)] | _ => none }

theorem nf_chunk_Of (p : Int) (K : V → Heap → Prop) : (exF cfg_chunk_Of Try.f111 [vi p] [] K) = (
    br (Decidable.decide (p < 0)) (K (vi (-1)) []) (K (vi (IntKind.wrap IntKind.i64 (Int.tdiv p 4))) [])) := by
  kernel_rfl

theorem nf_chunk_one_there (m_layout_Layout_Chunks : T_layout_Layout → Option (Int)) (xv : T_chunk_one) (K : V → Heap → Prop) : (exF (cfg_chunk_one_there m_layout_Layout_Chunks) Try.f128 [.agg (e_chunk_one xv)] [] K) = (
    br (Decidable.decide (T_chunk_one.k xv ≥ 0)) (So (m_layout_Layout_Chunks (T_chunk_one.Layout xv)) (fun (y0 : Int) => (K (vb (Decidable.decide (T_chunk_one.k xv < y0))) []))) (K (vb (Bool.false)) [])) := by
  kernel_rfl

theorem nf_chunk_one_pages (m_chunk_one_there : T_chunk_one → Option (Bool)) (m_layout_Layout_Config : T_layout_Layout → Option (T_api_Config)) (xv : T_chunk_one) (K : V → Heap → Prop) : (exF (cfg_chunk_one_pages m_chunk_one_there m_layout_Layout_Config) Try.f80 [.agg (e_chunk_one xv)] [] K) = (
    So (m_chunk_one_there xv) (fun (y0 : Bool) => (br (!y0) (K (.tup [vi (0), vi (0)]) []) (So (m_layout_Layout_Config (T_chunk_one.Layout xv)) (fun (y1 : T_api_Config) => (K (.tup [vi (IntKind.wrap IntKind.i64 (T_chunk_one.k xv * 4)), vi (if IntKind.wrap IntKind.i64 (T_api_Config.Pages y1 - IntKind.wrap IntKind.i64 (T_chunk_one.k xv * (4 : Int))) < (4 : Int) then IntKind.wrap IntKind.i64 (T_api_Config.Pages y1 - IntKind.wrap IntKind.i64 (T_chunk_one.k xv * (4 : Int))) else (4 : Int))]) [])))))) := by
  kernel_rfl

theorem nf_chunk_Pages (m_chunk_one_pages : T_chunk_one → Option (Int × Int)) (l2 : T_layout_Layout) (k : Int) (K : V → Heap → Prop) : (exF (cfg_chunk_Pages m_chunk_one_pages) Try.f23 [.agg (e_layout_Layout l2), vi k] [] K) = (
    So (m_chunk_one_pages (T_chunk_one.mk l2 k)) (fun (y0 : Int × Int) => (K (.tup [vi (Prod.fst y0), vi (Prod.snd y0)]) []))) := by
  kernel_rfl

theorem nf_chunk_span (m_layout_Layout_Config : T_layout_Layout → Option (T_api_Config)) (m_chunk_Of : Int → Option (Int)) (l2 : T_layout_Layout) (p : Int) (n : Int) (K : V → Heap → Prop) : (exF (cfg_chunk_span m_layout_Layout_Config m_chunk_Of) Try.f82 [.agg (e_layout_Layout l2), vi p, vi n] [] K) = (
    So (m_layout_Layout_Config l2) (fun (y0 : T_api_Config) => (br (Decidable.decide (n < 1)) (K (.tup [vi (0), vi (0), vb (Bool.false)]) []) (br (Decidable.decide (p < 0)) (K (.tup [vi (0), vi (0), vb (Bool.false)]) []) (br (Decidable.decide (p ≥ T_api_Config.Pages y0)) (K (.tup [vi (0), vi (0), vb (Bool.false)]) []) (br (Decidable.decide (n > IntKind.wrap IntKind.i64 (T_api_Config.Pages y0 - p))) (K (.tup [vi (0), vi (0), vb (Bool.false)]) []) (So (m_chunk_Of p) (fun (y1 : Int) => (So (m_chunk_Of (IntKind.wrap IntKind.i64 (IntKind.wrap IntKind.i64 (p + n) - 1))) (fun (y2 : Int) => (K (.tup [vi (y1), vi (y2), vb (Bool.true)]) []))))))))))) := by
  kernel_rfl

theorem nf_chunk_one_is (m_chunk_one_there : T_chunk_one → Option (Bool)) (m_layout_Layout_Table : T_layout_Layout → Int → Option (Int)) (ws : List Int) (cur : List Int) (xs : List Value) (xv : T_chunk_one) (state : Int) (K : V → Heap → Prop) : (exF (cfg_chunk_one_is m_chunk_one_there m_layout_Layout_Table) Try.f117 [.agg (e_chunk_one xv), .ptr 0 0, vi state] [.pk 0 [ws, cur] xs [.row 1], .row 0 ws true] K) = (
    So (m_chunk_one_there xv) (fun (y0 : Bool) => (br (y0) (So (m_layout_Layout_Table (T_chunk_one.Layout xv) (T_chunk_one.k xv)) (fun (y1 : Int) => (((ws = ws) ∧ (((List.length xs ≤ 2) ∧ (Req (inR y1 (List.length ws)) (K (vb (rd cur y1 == state)) [.pk 0 [ws, cur] (xs) [.row 1], .row 0 (ws : List (Int)) Bool.true])))))))) (K (vb (Bool.false)) [.pk 0 [ws, cur] (xs) [.row 1], .row 0 (ws : List (Int)) Bool.true])))) := by
  kernel_rfl

theorem nf_chunk_one_turn (m_chunk_one_there : T_chunk_one → Option (Bool)) (m_chunk_one_is : Nat → (List Int) → T_chunk_one → Int → Option (Bool)) (m_layout_Layout_Table : T_layout_Layout → Int → Option (Int)) (ws : List Int) (cur : List Int) (xs : List Value) (xv : T_chunk_one) (state : Int) (K : V → Heap → Prop) : (exF (cfg_chunk_one_turn m_chunk_one_there m_chunk_one_is m_layout_Layout_Table) Try.f81 [.agg (e_chunk_one xv), .ptr 0 0, vi state] [.pk 0 [ws, cur] xs [.row 1], .row 0 ws true] K) = (
    So (m_chunk_one_there xv) (fun (y0 : Bool) => (br (!y0) (K (vb (Bool.false)) [.pk 0 [ws, cur] (xs) [.row 1], .row 0 (ws : List (Int)) Bool.true]) (((ws = ws) ∧ (((List.length xs ≤ 2) ∧ (So (m_chunk_one_is (List.length ws) cur xv 1) (fun (y1 : Bool) => (br (y1 == (state == 1)) (K (vb (Bool.false)) [.pk 0 [ws, cur] (xs) [.row 1], .row 0 (ws : List (Int)) Bool.true]) (So (m_layout_Layout_Table (T_chunk_one.Layout xv) (T_chunk_one.k xv)) (fun (y2 : Int) => (((ws = ws) ∧ (((List.length xs ≤ 2) ∧ (Req (inR y2 (List.length ws)) (K (vb (Bool.true)) [.pk 0 [ws, wr cur y2 state] (xs) [.row 1], .row 0 (ws : List (Int)) Bool.true])))))))))))))))))) := by
  kernel_rfl

theorem nf_chunk_Map (m_chunk_one_turn : Nat → (List Int) → T_chunk_one → Int → Option (Bool × (List Int))) (ws : List Int) (cur : List Int) (xs : List Value) (l2 : T_layout_Layout) (k : Int) (K : V → Heap → Prop) : (exF (cfg_chunk_Map m_chunk_one_turn) Try.f24 [.ptr 0 0, .agg (e_layout_Layout l2), vi k] [.pk 0 [ws, cur] xs [.row 1], .row 0 ws true] K) = (
    ((ws = ws) ∧ (((List.length xs ≤ 2) ∧ (So (m_chunk_one_turn (List.length ws) cur (T_chunk_one.mk l2 k) 1) (fun (y0 : Bool × List Int) => (K (vb (Prod.fst y0)) [.pk 0 [ws, Prod.snd y0] (xs) [.row 1], .row 0 (ws : List (Int)) Bool.true]))))))) := by
  kernel_rfl

theorem nf_chunk_Unmap (m_chunk_one_turn : Nat → (List Int) → T_chunk_one → Int → Option (Bool × (List Int))) (ws : List Int) (cur : List Int) (xs : List Value) (l2 : T_layout_Layout) (k : Int) (K : V → Heap → Prop) : (exF (cfg_chunk_Unmap m_chunk_one_turn) Try.f25 [.ptr 0 0, .agg (e_layout_Layout l2), vi k] [.pk 0 [ws, cur] xs [.row 1], .row 0 ws true] K) = (
    ((ws = ws) ∧ (((List.length xs ≤ 2) ∧ (So (m_chunk_one_turn (List.length ws) cur (T_chunk_one.mk l2 k) 0) (fun (y0 : Bool × List Int) => (K (vb (Prod.fst y0)) [.pk 0 [ws, Prod.snd y0] (xs) [.row 1], .row 0 (ws : List (Int)) Bool.true]))))))) := by
  kernel_rfl

theorem nf_chunk_Mapped (m_chunk_one_is : Nat → (List Int) → T_chunk_one → Int → Option (Bool)) (ws : List Int) (cur : List Int) (xs : List Value) (l2 : T_layout_Layout) (k : Int) (K : V → Heap → Prop) : (exF (cfg_chunk_Mapped m_chunk_one_is) Try.f67 [.ptr 0 0, .agg (e_layout_Layout l2), vi k] [.pk 0 [ws, cur] xs [.row 1], .row 0 ws true] K) = (
    ((ws = ws) ∧ (((List.length xs ≤ 2) ∧ (So (m_chunk_one_is (List.length ws) cur (T_chunk_one.mk l2 k) 1) (fun (y0 : Bool) => (K (vb (y0)) [.pk 0 [ws, cur] (xs) [.row 1], .row 0 (ws : List (Int)) Bool.true]))))))) := by
  kernel_rfl

theorem nf_chunk_Ensure_L1 (m_chunk_span : T_layout_Layout → Int → Int → Option (Int × Int × Bool)) (m_chunk_Map : Nat → (List Int) → T_layout_Layout → Int → Option (Bool × (List Int))) (m_chunk_Pages : T_layout_Layout → Int → Option (Int × Int)) (ws : List Int) (cur : List Int) (xs : List Value) (l2 : T_layout_Layout) (p : Int) (n : Int) (last : Int) (ok : Bool) (turned : Int) (k : Int) (cur2 : List Int) (K : V → Heap → Prop) (J1 : Env → Heap → Prop) : (ex (cfg_chunk_Ensure m_chunk_span m_chunk_Map m_chunk_Pages) (⟨47, 2⟩ : Cx) (at_ (bodyOf Try.f26) [1, 1, 1, 0, 1, 0, 0]) (mkEnv [(0, .ptr 0 0), (5, .ptr 2 0), (10, vi (last)), (11, vb (ok)), (12, vi (turned)), (13, vi (k))]) [.pk 0 [ws, cur2] (xs) [.row 1], .row 0 (ws : List (Int)) Bool.true, .cells 28 (e_layout_Layout l2)] (roundK (cfg_chunk_Ensure m_chunk_span m_chunk_Map m_chunk_Pages) (⟨47, 2⟩ : Cx) (at_ (bodyOf Try.f26) [1, 1, 1, 0, 1, 0, 0]) (contK (cfg_chunk_Ensure m_chunk_span m_chunk_Map m_chunk_Pages) (⟨47, 2⟩ : Cx) (bodyOf Try.f26) [1, 1, 1, 0, 1, 0] (retK (cfg_chunk_Ensure m_chunk_span m_chunk_Map m_chunk_Pages) Try.f26 2 K)) J1)) = (
    br (ok) (br (Decidable.decide (k ≤ last)) (((ws = ws) ∧ (((List.length xs ≤ 2) ∧ (So (m_chunk_Map (List.length ws) cur2 l2 k) (fun (y0 : Bool × List Int) => (br (Prod.fst y0) (So (m_chunk_Pages l2 k) (fun (y1 : Int × Int) => (J1 (mkEnv [(0, .ptr 0 0), (5, .ptr 2 0), (10, vi (last)), (11, vb (ok)), (12, vi (IntKind.wrap IntKind.i64 (turned + Prod.snd y1))), (13, vi (IntKind.wrap IntKind.i64 (k + 1)))]) [.pk 0 [ws, Prod.snd y0] (xs) [.row 1], .row 0 (ws : List (Int)) Bool.true, .cells 28 (e_layout_Layout l2)]))) (J1 (mkEnv [(0, .ptr 0 0), (5, .ptr 2 0), (10, vi (last)), (11, vb (ok)), (12, vi (turned)), (13, vi (IntKind.wrap IntKind.i64 (k + 1)))]) [.pk 0 [ws, Prod.snd y0] (xs) [.row 1], .row 0 (ws : List (Int)) Bool.true, .cells 28 (e_layout_Layout l2)])))))))) (K (vi (turned)) [.pk 0 [ws, cur2] (xs) [.row 1], .row 0 (ws : List (Int)) Bool.true])) (K (vi (turned)) [.pk 0 [ws, cur2] (xs) [.row 1], .row 0 (ws : List (Int)) Bool.true])) := by
  kernel_rfl

theorem nf_chunk_Ensure (m_chunk_span : T_layout_Layout → Int → Int → Option (Int × Int × Bool)) (m_chunk_Map : Nat → (List Int) → T_layout_Layout → Int → Option (Bool × (List Int))) (m_chunk_Pages : T_layout_Layout → Int → Option (Int × Int)) (ws : List Int) (cur : List Int) (xs : List Value) (l2 : T_layout_Layout) (p : Int) (n : Int) (K : V → Heap → Prop) : (exF (cfg_chunk_Ensure m_chunk_span m_chunk_Map m_chunk_Pages) Try.f26 [.ptr 0 0, .agg (e_layout_Layout l2), vi p, vi n] [.pk 0 [ws, cur] xs [.row 1], .row 0 ws true] K) = (
    So (m_chunk_span l2 p n) (fun (y0 : Int × Int × Bool) => (Loop (cfg_chunk_Ensure m_chunk_span m_chunk_Map m_chunk_Pages) (⟨47, 2⟩ : Cx) (at_ (bodyOf Try.f26) [1, 1, 1, 0, 1, 0, 0]) (mkEnv [(0, .ptr 0 0), (5, .ptr 2 0), (10, vi (Prod.fst (Prod.snd y0))), (11, vb (Prod.snd (Prod.snd y0))), (12, vi (0)), (13, vi (Prod.fst y0))]) [.pk 0 [ws, cur] (xs) [.row 1], .row 0 (ws : List (Int)) Bool.true, .cells 28 (e_layout_Layout l2)] (contK (cfg_chunk_Ensure m_chunk_span m_chunk_Map m_chunk_Pages) (⟨47, 2⟩ : Cx) (bodyOf Try.f26) [1, 1, 1, 0, 1, 0] (retK (cfg_chunk_Ensure m_chunk_span m_chunk_Map m_chunk_Pages) Try.f26 2 K))))) := by
  kernel_rfl

noncomputable def m_chunk_Of (p : Int) : Option (Int) :=
  (bif (Decidable.decide (p < 0)) then some ((-1)) else some ((IntKind.wrap IntKind.i64 (Int.tdiv p 4))))

noncomputable def m_chunk_one_there (xv : T_chunk_one) : Option (Bool) :=
  (bif (Decidable.decide (T_chunk_one.k xv ≥ 0)) then ((m_layout_Layout_Chunks (T_chunk_one.Layout xv)).bind fun y0 => some ((Decidable.decide (T_chunk_one.k xv < y0)))) else some ((Bool.false)))

noncomputable def m_chunk_one_pages (xv : T_chunk_one) : Option (Int × Int) :=
  ((m_chunk_one_there xv).bind fun y0 => (bif (!y0) then some (((0), (0))) else ((m_layout_Layout_Config (T_chunk_one.Layout xv)).bind fun y1 => some (((IntKind.wrap IntKind.i64 (T_chunk_one.k xv * 4)), (if IntKind.wrap IntKind.i64 (T_api_Config.Pages y1 - IntKind.wrap IntKind.i64 (T_chunk_one.k xv * (4 : Int))) < (4 : Int) then IntKind.wrap IntKind.i64 (T_api_Config.Pages y1 - IntKind.wrap IntKind.i64 (T_chunk_one.k xv * (4 : Int))) else (4 : Int)))))))

noncomputable def m_chunk_Pages (l2 : T_layout_Layout) (k : Int) : Option (Int × Int) :=
  ((m_chunk_one_pages (T_chunk_one.mk l2 k)).bind fun y0 => some (((Prod.fst y0), (Prod.snd y0))))

noncomputable def m_chunk_span (l2 : T_layout_Layout) (p : Int) (n : Int) : Option (Int × Int × Bool) :=
  ((m_layout_Layout_Config l2).bind fun y0 => (bif (Decidable.decide (n < 1)) then some (((0), (0), (Bool.false))) else (bif (Decidable.decide (p < 0)) then some (((0), (0), (Bool.false))) else (bif (Decidable.decide (p ≥ T_api_Config.Pages y0)) then some (((0), (0), (Bool.false))) else (bif (Decidable.decide (n > IntKind.wrap IntKind.i64 (T_api_Config.Pages y0 - p))) then some (((0), (0), (Bool.false))) else ((m_chunk_Of p).bind fun y1 => ((m_chunk_Of (IntKind.wrap IntKind.i64 (IntKind.wrap IntKind.i64 (p + n) - 1))).bind fun y2 => some (((y1), (y2), (Bool.true))))))))))

noncomputable def m_chunk_one_is (nw : Nat) (cur : List Int) (xv : T_chunk_one) (state : Int) : Option (Bool) :=
  ((m_chunk_one_there xv).bind fun y0 => (bif (y0) then ((m_layout_Layout_Table (T_chunk_one.Layout xv) (T_chunk_one.k xv)).bind fun y1 => (bif (inR y1 nw) then some ((rd cur y1 == state)) else none)) else some ((Bool.false))))

noncomputable def m_chunk_one_turn (nw : Nat) (cur : List Int) (xv : T_chunk_one) (state : Int) : Option (Bool × (List Int)) :=
  ((m_chunk_one_there xv).bind fun y0 => (bif (!y0) then some (((Bool.false), (cur))) else ((m_chunk_one_is nw cur xv 1).bind fun y1 => (bif (y1 == (state == 1)) then some (((Bool.false), (cur))) else ((m_layout_Layout_Table (T_chunk_one.Layout xv) (T_chunk_one.k xv)).bind fun y2 => (bif (inR y2 nw) then some (((Bool.true), (wr cur y2 state))) else none))))))

noncomputable def m_chunk_Map (nw : Nat) (cur : List Int) (l2 : T_layout_Layout) (k : Int) : Option (Bool × (List Int)) :=
  ((m_chunk_one_turn nw cur (T_chunk_one.mk l2 k) 1).bind fun y0 => some (((Prod.fst y0), (Prod.snd y0))))

noncomputable def m_chunk_Unmap (nw : Nat) (cur : List Int) (l2 : T_layout_Layout) (k : Int) : Option (Bool × (List Int)) :=
  ((m_chunk_one_turn nw cur (T_chunk_one.mk l2 k) 0).bind fun y0 => some (((Prod.fst y0), (Prod.snd y0))))

noncomputable def m_chunk_Mapped (nw : Nat) (cur : List Int) (l2 : T_layout_Layout) (k : Int) : Option (Bool) :=
  ((m_chunk_one_is nw cur (T_chunk_one.mk l2 k) 1).bind fun y0 => some ((y0)))

noncomputable def sb_chunk_Ensure_L1 (nw : Nat) (l2 : T_layout_Layout) (last : Int) (ok : Bool) (turned : Int) (k : Int) (cur2 : List Int) : Option ((Int × Int × (List Int)) ⊕ (Int × (List Int))) :=
  (bif (ok) then (bif (Decidable.decide (k ≤ last)) then ((m_chunk_Map nw cur2 l2 k).bind fun y0 => (bif (Prod.fst y0) then ((m_chunk_Pages l2 k).bind fun y1 => some (.inl ((IntKind.wrap IntKind.i64 (turned + Prod.snd y1)), (IntKind.wrap IntKind.i64 (k + 1)), (Prod.snd y0)))) else some (.inl ((turned), (IntKind.wrap IntKind.i64 (k + 1)), (Prod.snd y0))))) else some (.inr (((turned), (cur2))))) else some (.inr (((turned), (cur2)))))

noncomputable def lp_chunk_Ensure_L1 (nw : Nat) (l2 : T_layout_Layout) (last : Int) (ok : Bool) (s : Int × Int × (List Int)) : Option (Int × (List Int)) :=
  loopO (fun s => sb_chunk_Ensure_L1 nw l2 last ok s.1 s.2.1 s.2.2) s

noncomputable def m_chunk_Ensure (nw : Nat) (cur : List Int) (l2 : T_layout_Layout) (p : Int) (n : Int) : Option (Int × (List Int)) :=
  ((m_chunk_span l2 p n).bind fun y0 => (lp_chunk_Ensure_L1 nw l2 (Prod.fst (Prod.snd y0)) (Prod.snd (Prod.snd y0)) ((0), (Prod.fst y0), (cur))))

attribute [local irreducible] Loop ex exF contK roundK retK at_ bodyOf mkEnv
theorem ok_chunk_Of : SpecOK Try.prog elTT 111 (sp_chunk_Of m_chunk_Of) := by
  refine spec_of_exF (cfg := cfg_chunk_Of) (cfg_ok rfl rfl rfl) sig_nil (fn := Try.f111) (by kernel_rfl) (by kernel_rfl) (by kernel_rfl) ?_
  intro args H K h
  change tr_chunk_Of m_chunk_Of args H K at h
  unfold tr_chunk_Of at h
  replace h := aC_el h
  obtain ⟨a0, _, rfl, h⟩ := h
  replace h := aN_el h
  obtain ⟨rfl, h⟩ := h
  replace h := aInt_el h
  obtain ⟨p, rfl, h⟩ := h
  replace h := aN_el h
  obtain ⟨rfl, h⟩ := h
  refine Eq.mpr (nf_chunk_Of p K) ?_
  unfold m_chunk_Of at h
  revert h
  exact br_So (fun h => h) (fun h => h)

theorem ok_chunk_one_there : SpecOK Try.prog elTT 128 (sp_chunk_one_there m_chunk_one_there) := by
  refine spec_of_exF (cfg := (cfg_chunk_one_there m_layout_Layout_Chunks)) (cfg_ok rfl rfl rfl) (sig_cons ok_layout_Layout_Chunks sig_nil) (fn := Try.f128) (by kernel_rfl) (by kernel_rfl) (by kernel_rfl) ?_
  intro args H K h
  change tr_chunk_one_there m_chunk_one_there args H K at h
  unfold tr_chunk_one_there at h
  replace h := aC_el h
  obtain ⟨a0, _, rfl, h⟩ := h
  replace h := aN_el h
  obtain ⟨rfl, h⟩ := h
  replace h := aAgg_el h
  obtain ⟨c0, rfl, h⟩ := h
  replace h := d_chunk_one_el h
  obtain ⟨xv, rfl, h⟩ := h
  replace h := aN_el h
  obtain ⟨rfl, h⟩ := h
  refine Eq.mpr (nf_chunk_one_there m_layout_Layout_Chunks xv K) ?_
  unfold m_chunk_one_there at h
  revert h
  exact br_So (bind_So fun y0 => fun h => h) (fun h => h)

theorem ok_chunk_one_pages : SpecOK Try.prog elTT 80 (sp_chunk_one_pages m_chunk_one_pages) := by
  refine spec_of_exF (cfg := (cfg_chunk_one_pages m_chunk_one_there m_layout_Layout_Config)) (cfg_ok rfl rfl rfl) (sig_cons ok_chunk_one_there (sig_cons ok_layout_Layout_Config sig_nil)) (fn := Try.f80) (by kernel_rfl) (by kernel_rfl) (by kernel_rfl) ?_
  intro args H K h
  change tr_chunk_one_pages m_chunk_one_pages args H K at h
  unfold tr_chunk_one_pages at h
  replace h := aC_el h
  obtain ⟨a0, _, rfl, h⟩ := h
  replace h := aN_el h
  obtain ⟨rfl, h⟩ := h
  replace h := aAgg_el h
  obtain ⟨c0, rfl, h⟩ := h
  replace h := d_chunk_one_el h
  obtain ⟨xv, rfl, h⟩ := h
  replace h := aN_el h
  obtain ⟨rfl, h⟩ := h
  refine Eq.mpr (nf_chunk_one_pages m_chunk_one_there m_layout_Layout_Config xv K) ?_
  unfold m_chunk_one_pages at h
  revert h
  exact bind_So fun y0 => br_So (fun h => h) (bind_So fun y1 => fun h => h)

theorem ok_chunk_Pages : SpecOK Try.prog elTT 23 (sp_chunk_Pages m_chunk_Pages) := by
  refine spec_of_exF (cfg := (cfg_chunk_Pages m_chunk_one_pages)) (cfg_ok rfl rfl rfl) (sig_cons ok_chunk_one_pages sig_nil) (fn := Try.f23) (by kernel_rfl) (by kernel_rfl) (by kernel_rfl) ?_
  intro args H K h
  change tr_chunk_Pages m_chunk_Pages args H K at h
  unfold tr_chunk_Pages at h
  replace h := aC_el h
  obtain ⟨a0, _, rfl, h⟩ := h
  replace h := aC_el h
  obtain ⟨a1, _, rfl, h⟩ := h
  replace h := aN_el h
  obtain ⟨rfl, h⟩ := h
  replace h := aAgg_el h
  obtain ⟨c0, rfl, h⟩ := h
  replace h := d_layout_Layout_el h
  obtain ⟨l2, rfl, h⟩ := h
  replace h := aInt_el h
  obtain ⟨k, rfl, h⟩ := h
  replace h := aN_el h
  obtain ⟨rfl, h⟩ := h
  refine Eq.mpr (nf_chunk_Pages m_chunk_one_pages l2 k K) ?_
  unfold m_chunk_Pages at h
  revert h
  exact bind_So fun y0 => fun h => h

theorem ok_chunk_span : SpecOK Try.prog elTT 82 (sp_chunk_span m_chunk_span) := by
  refine spec_of_exF (cfg := (cfg_chunk_span m_layout_Layout_Config m_chunk_Of)) (cfg_ok rfl rfl rfl) (sig_cons ok_layout_Layout_Config (sig_cons ok_chunk_Of sig_nil)) (fn := Try.f82) (by kernel_rfl) (by kernel_rfl) (by kernel_rfl) ?_
  intro args H K h
  change tr_chunk_span m_chunk_span args H K at h
  unfold tr_chunk_span at h
  replace h := aC_el h
  obtain ⟨a0, _, rfl, h⟩ := h
  replace h := aC_el h
  obtain ⟨a1, _, rfl, h⟩ := h
  replace h := aC_el h
  obtain ⟨a2, _, rfl, h⟩ := h
  replace h := aN_el h
  obtain ⟨rfl, h⟩ := h
  replace h := aAgg_el h
  obtain ⟨c0, rfl, h⟩ := h
  replace h := d_layout_Layout_el h
  obtain ⟨l2, rfl, h⟩ := h
  replace h := aInt_el h
  obtain ⟨p, rfl, h⟩ := h
  replace h := aInt_el h
  obtain ⟨n, rfl, h⟩ := h
  replace h := aN_el h
  obtain ⟨rfl, h⟩ := h
  refine Eq.mpr (nf_chunk_span m_layout_Layout_Config m_chunk_Of l2 p n K) ?_
  unfold m_chunk_span at h
  revert h
  exact bind_So fun y0 => br_So (fun h => h) (br_So (fun h => h) (br_So (fun h => h) (br_So (fun h => h) (bind_So fun y1 => bind_So fun y2 => fun h => h))))

theorem ok_chunk_one_is : SpecOK Try.prog elTT 117 (sp_chunk_one_is m_chunk_one_is) := by
  refine spec_of_exF (cfg := (cfg_chunk_one_is m_chunk_one_there m_layout_Layout_Table)) (cfg_ok rfl rfl rfl) (sig_cons ok_chunk_one_there (sig_cons ok_layout_Layout_Table (sig_cons rd_ok sig_nil))) (fn := Try.f117) (by kernel_rfl) (by kernel_rfl) (by kernel_rfl) ?_
  intro args H K h
  change tr_chunk_one_is m_chunk_one_is args H K at h
  unfold tr_chunk_one_is at h
  replace h := aC_el h
  obtain ⟨a0, _, rfl, h⟩ := h
  replace h := aC_el h
  obtain ⟨a1, _, rfl, h⟩ := h
  replace h := aC_el h
  obtain ⟨a2, _, rfl, h⟩ := h
  replace h := aN_el h
  obtain ⟨rfl, h⟩ := h
  replace h := aAgg_el h
  obtain ⟨c0, rfl, h⟩ := h
  replace h := d_chunk_one_el h
  obtain ⟨xv, rfl, h⟩ := h
  replace h := aPtr_el h
  obtain ⟨rfl, h⟩ := h
  replace h := aInt_el h
  obtain ⟨state, rfl, h⟩ := h
  replace h := aC_el h
  obtain ⟨b0, _, rfl, h⟩ := h
  replace h := aC_el h
  obtain ⟨b1, _, rfl, h⟩ := h
  replace h := aN_el h
  obtain ⟨rfl, h⟩ := h
  replace h := bView_el h
  obtain ⟨ws, cur, xs, rfl, h⟩ := h
  replace h := bRow_el h
  obtain ⟨(l : List Int), rfl, h⟩ := h
  obtain ⟨rfl, hx, h⟩ := h
  refine Eq.mpr (nf_chunk_one_is m_chunk_one_there m_layout_Layout_Table ws cur xs xv state K) ?_
  unfold m_chunk_one_is at h
  revert h
  exact bind_So fun y0 => br_So (bind_So fun y1 => and_So (by first | exact rfl | assumption | exact trivial | omega) (and_So (by first | exact rfl | assumption | exact trivial | omega) (req_So (fun h => h)))) (fun h => h)

theorem ok_chunk_one_turn : SpecOK Try.prog elTT 81 (sp_chunk_one_turn m_chunk_one_turn) := by
  refine spec_of_exF (cfg := (cfg_chunk_one_turn m_chunk_one_there m_chunk_one_is m_layout_Layout_Table)) (cfg_ok rfl rfl rfl) (sig_cons ok_chunk_one_there (sig_cons ok_chunk_one_is (sig_cons ok_layout_Layout_Table (sig_cons wr_ok sig_nil)))) (fn := Try.f81) (by kernel_rfl) (by kernel_rfl) (by kernel_rfl) ?_
  intro args H K h
  change tr_chunk_one_turn m_chunk_one_turn args H K at h
  unfold tr_chunk_one_turn at h
  replace h := aC_el h
  obtain ⟨a0, _, rfl, h⟩ := h
  replace h := aC_el h
  obtain ⟨a1, _, rfl, h⟩ := h
  replace h := aC_el h
  obtain ⟨a2, _, rfl, h⟩ := h
  replace h := aN_el h
  obtain ⟨rfl, h⟩ := h
  replace h := aAgg_el h
  obtain ⟨c0, rfl, h⟩ := h
  replace h := d_chunk_one_el h
  obtain ⟨xv, rfl, h⟩ := h
  replace h := aPtr_el h
  obtain ⟨rfl, h⟩ := h
  replace h := aInt_el h
  obtain ⟨state, rfl, h⟩ := h
  replace h := aC_el h
  obtain ⟨b0, _, rfl, h⟩ := h
  replace h := aC_el h
  obtain ⟨b1, _, rfl, h⟩ := h
  replace h := aN_el h
  obtain ⟨rfl, h⟩ := h
  replace h := bView_el h
  obtain ⟨ws, cur, xs, rfl, h⟩ := h
  replace h := bRow_el h
  obtain ⟨(l : List Int), rfl, h⟩ := h
  obtain ⟨rfl, hx, h⟩ := h
  refine Eq.mpr (nf_chunk_one_turn m_chunk_one_there m_chunk_one_is m_layout_Layout_Table ws cur xs xv state K) ?_
  unfold m_chunk_one_turn at h
  revert h
  exact bind_So fun y0 => br_So (fun h => h) (and_So (by first | exact rfl | assumption | exact trivial | omega) (and_So (by first | exact rfl | assumption | exact trivial | omega) (bind_So fun y1 => br_So (fun h => h) (bind_So fun y2 => and_So (by first | exact rfl | assumption | exact trivial | omega) (and_So (by first | exact rfl | assumption | exact trivial | omega) (req_So (fun h => h)))))))

theorem ok_chunk_Map : SpecOK Try.prog elTT 24 (sp_chunk_Map m_chunk_Map) := by
  refine spec_of_exF (cfg := (cfg_chunk_Map m_chunk_one_turn)) (cfg_ok rfl rfl rfl) (sig_cons ok_chunk_one_turn sig_nil) (fn := Try.f24) (by kernel_rfl) (by kernel_rfl) (by kernel_rfl) ?_
  intro args H K h
  change tr_chunk_Map m_chunk_Map args H K at h
  unfold tr_chunk_Map at h
  replace h := aC_el h
  obtain ⟨a0, _, rfl, h⟩ := h
  replace h := aC_el h
  obtain ⟨a1, _, rfl, h⟩ := h
  replace h := aC_el h
  obtain ⟨a2, _, rfl, h⟩ := h
  replace h := aN_el h
  obtain ⟨rfl, h⟩ := h
  replace h := aPtr_el h
  obtain ⟨rfl, h⟩ := h
  replace h := aAgg_el h
  obtain ⟨c1, rfl, h⟩ := h
  replace h := d_layout_Layout_el h
  obtain ⟨l2, rfl, h⟩ := h
  replace h := aInt_el h
  obtain ⟨k, rfl, h⟩ := h
  replace h := aC_el h
  obtain ⟨b0, _, rfl, h⟩ := h
  replace h := aC_el h
  obtain ⟨b1, _, rfl, h⟩ := h
  replace h := aN_el h
  obtain ⟨rfl, h⟩ := h
  replace h := bView_el h
  obtain ⟨ws, cur, xs, rfl, h⟩ := h
  replace h := bRow_el h
  obtain ⟨(l : List Int), rfl, h⟩ := h
  obtain ⟨rfl, hx, h⟩ := h
  refine Eq.mpr (nf_chunk_Map m_chunk_one_turn ws cur xs l2 k K) ?_
  unfold m_chunk_Map at h
  revert h
  exact and_So (by first | exact rfl | assumption | exact trivial | omega) (and_So (by first | exact rfl | assumption | exact trivial | omega) (bind_So fun y0 => fun h => h))

theorem ok_chunk_Unmap : SpecOK Try.prog elTT 25 (sp_chunk_Unmap m_chunk_Unmap) := by
  refine spec_of_exF (cfg := (cfg_chunk_Unmap m_chunk_one_turn)) (cfg_ok rfl rfl rfl) (sig_cons ok_chunk_one_turn sig_nil) (fn := Try.f25) (by kernel_rfl) (by kernel_rfl) (by kernel_rfl) ?_
  intro args H K h
  change tr_chunk_Unmap m_chunk_Unmap args H K at h
  unfold tr_chunk_Unmap at h
  replace h := aC_el h
  obtain ⟨a0, _, rfl, h⟩ := h
  replace h := aC_el h
  obtain ⟨a1, _, rfl, h⟩ := h
  replace h := aC_el h
  obtain ⟨a2, _, rfl, h⟩ := h
  replace h := aN_el h
  obtain ⟨rfl, h⟩ := h
  replace h := aPtr_el h
  obtain ⟨rfl, h⟩ := h
  replace h := aAgg_el h
  obtain ⟨c1, rfl, h⟩ := h
  replace h := d_layout_Layout_el h
  obtain ⟨l2, rfl, h⟩ := h
  replace h := aInt_el h
  obtain ⟨k, rfl, h⟩ := h
  replace h := aC_el h
  obtain ⟨b0, _, rfl, h⟩ := h
  replace h := aC_el h
  obtain ⟨b1, _, rfl, h⟩ := h
  replace h := aN_el h
  obtain ⟨rfl, h⟩ := h
  replace h := bView_el h
  obtain ⟨ws, cur, xs, rfl, h⟩ := h
  replace h := bRow_el h
  obtain ⟨(l : List Int), rfl, h⟩ := h
  obtain ⟨rfl, hx, h⟩ := h
  refine Eq.mpr (nf_chunk_Unmap m_chunk_one_turn ws cur xs l2 k K) ?_
  unfold m_chunk_Unmap at h
  revert h
  exact and_So (by first | exact rfl | assumption | exact trivial | omega) (and_So (by first | exact rfl | assumption | exact trivial | omega) (bind_So fun y0 => fun h => h))

theorem ok_chunk_Mapped : SpecOK Try.prog elTT 67 (sp_chunk_Mapped m_chunk_Mapped) := by
  refine spec_of_exF (cfg := (cfg_chunk_Mapped m_chunk_one_is)) (cfg_ok rfl rfl rfl) (sig_cons ok_chunk_one_is sig_nil) (fn := Try.f67) (by kernel_rfl) (by kernel_rfl) (by kernel_rfl) ?_
  intro args H K h
  change tr_chunk_Mapped m_chunk_Mapped args H K at h
  unfold tr_chunk_Mapped at h
  replace h := aC_el h
  obtain ⟨a0, _, rfl, h⟩ := h
  replace h := aC_el h
  obtain ⟨a1, _, rfl, h⟩ := h
  replace h := aC_el h
  obtain ⟨a2, _, rfl, h⟩ := h
  replace h := aN_el h
  obtain ⟨rfl, h⟩ := h
  replace h := aPtr_el h
  obtain ⟨rfl, h⟩ := h
  replace h := aAgg_el h
  obtain ⟨c1, rfl, h⟩ := h
  replace h := d_layout_Layout_el h
  obtain ⟨l2, rfl, h⟩ := h
  replace h := aInt_el h
  obtain ⟨k, rfl, h⟩ := h
  replace h := aC_el h
  obtain ⟨b0, _, rfl, h⟩ := h
  replace h := aC_el h
  obtain ⟨b1, _, rfl, h⟩ := h
  replace h := aN_el h
  obtain ⟨rfl, h⟩ := h
  replace h := bView_el h
  obtain ⟨ws, cur, xs, rfl, h⟩ := h
  replace h := bRow_el h
  obtain ⟨(l : List Int), rfl, h⟩ := h
  obtain ⟨rfl, hx, h⟩ := h
  refine Eq.mpr (nf_chunk_Mapped m_chunk_one_is ws cur xs l2 k K) ?_
  unfold m_chunk_Mapped at h
  revert h
  exact and_So (by first | exact rfl | assumption | exact trivial | omega) (and_So (by first | exact rfl | assumption | exact trivial | omega) (bind_So fun y0 => fun h => h))

theorem lpok_chunk_Ensure_L1 (ws : List Int) (cur : List Int) (xs : List Value) (l2 : T_layout_Layout) (p : Int) (n : Int) (last : Int) (ok : Bool) (turned : Int) (k : Int) (cur2 : List Int) (K : V → Heap → Prop) (hx : xs.length ≤ 2) : So (lp_chunk_Ensure_L1 (ws.length) (l2) (last) (ok) (turned, k, cur2)) (fun (x : Int × (List Int)) => K (vi (x.1)) [.pk 0 [ws, x.2] xs [.row 1], .row 0 ws true]) → Loop (cfg_chunk_Ensure m_chunk_span m_chunk_Map m_chunk_Pages) (⟨47, 2⟩ : Cx) (at_ (bodyOf Try.f26) [1, 1, 1, 0, 1, 0, 0]) (mkEnv [(0, .ptr 0 0), (5, .ptr 2 0), (10, vi (last)), (11, vb (ok)), (12, vi (turned)), (13, vi (k))]) [.pk 0 [ws, cur2] (xs) [.row 1], .row 0 (ws : List (Int)) Bool.true, .cells 28 (e_layout_Layout l2)] (contK (cfg_chunk_Ensure m_chunk_span m_chunk_Map m_chunk_Pages) (⟨47, 2⟩ : Cx) (bodyOf Try.f26) [1, 1, 1, 0, 1, 0] (retK (cfg_chunk_Ensure m_chunk_span m_chunk_Map m_chunk_Pages) Try.f26 2 K)) := by
  refine loopK_So (fun (s_ : Int × Int × (List Int)) => (mkEnv [(0, .ptr 0 0), (5, .ptr 2 0), (10, vi (last)), (11, vb (ok)), (12, vi ((s_.1))), (13, vi ((s_.2.1)))])) (fun (s_ : Int × Int × (List Int)) => [.pk 0 [ws, (s_.2.2)] (xs) [.row 1], .row 0 (ws : List (Int)) Bool.true, .cells 28 (e_layout_Layout l2)]) (fun (x : Int × (List Int)) => K (vi (x.1)) [.pk 0 [ws, x.2] xs [.row 1], .row 0 ws true]) ?_ (turned, k, cur2)
  intro s_ J1 h
  clear turned
  clear k
  clear cur2
  obtain ⟨turned, k, cur2⟩ := s_
  refine Eq.mpr (nf_chunk_Ensure_L1 m_chunk_span m_chunk_Map m_chunk_Pages ws cur xs l2 p n last ok turned k cur2 K J1) ?_
  have h : So (sb_chunk_Ensure_L1 (ws.length) (l2) (last) (ok) turned k cur2) _ := h
  unfold sb_chunk_Ensure_L1 at h
  revert h
  exact br_So (br_So (and_So (by first | exact rfl | assumption | exact trivial | omega) (and_So (by first | exact rfl | assumption | exact trivial | omega) (bind_So fun y0 => br_So (bind_So fun y1 => fun h => h) (fun h => h)))) (fun h => h)) (fun h => h)

theorem ok_chunk_Ensure : SpecOK Try.prog elTT 26 (sp_chunk_Ensure m_chunk_Ensure) := by
  refine spec_of_exF (cfg := (cfg_chunk_Ensure m_chunk_span m_chunk_Map m_chunk_Pages)) (cfg_ok rfl rfl rfl) (sig_cons ok_chunk_span (sig_cons ok_chunk_Map (sig_cons ok_chunk_Pages sig_nil))) (fn := Try.f26) (by kernel_rfl) (by kernel_rfl) (by kernel_rfl) ?_
  intro args H K h
  change tr_chunk_Ensure m_chunk_Ensure args H K at h
  unfold tr_chunk_Ensure at h
  replace h := aC_el h
  obtain ⟨a0, _, rfl, h⟩ := h
  replace h := aC_el h
  obtain ⟨a1, _, rfl, h⟩ := h
  replace h := aC_el h
  obtain ⟨a2, _, rfl, h⟩ := h
  replace h := aC_el h
  obtain ⟨a3, _, rfl, h⟩ := h
  replace h := aN_el h
  obtain ⟨rfl, h⟩ := h
  replace h := aPtr_el h
  obtain ⟨rfl, h⟩ := h
  replace h := aAgg_el h
  obtain ⟨c1, rfl, h⟩ := h
  replace h := d_layout_Layout_el h
  obtain ⟨l2, rfl, h⟩ := h
  replace h := aInt_el h
  obtain ⟨p, rfl, h⟩ := h
  replace h := aInt_el h
  obtain ⟨n, rfl, h⟩ := h
  replace h := aC_el h
  obtain ⟨b0, _, rfl, h⟩ := h
  replace h := aC_el h
  obtain ⟨b1, _, rfl, h⟩ := h
  replace h := aN_el h
  obtain ⟨rfl, h⟩ := h
  replace h := bView_el h
  obtain ⟨ws, cur, xs, rfl, h⟩ := h
  replace h := bRow_el h
  obtain ⟨(l : List Int), rfl, h⟩ := h
  obtain ⟨rfl, hx, h⟩ := h
  refine Eq.mpr (nf_chunk_Ensure m_chunk_span m_chunk_Map m_chunk_Pages ws cur xs l2 p n K) ?_
  unfold m_chunk_Ensure at h
  revert h
  exact bind_So fun y0 => lpok_chunk_Ensure_L1 ws cur xs l2 p n (Prod.fst (Prod.snd y0)) (Prod.snd (Prod.snd y0)) (0) (Prod.fst y0) (cur) K hx

end Go.Rx
end

section
/- Layouts, plainly. -/
namespace Go.Rx
open Go.Proofs

/-- Which configurations may be. -/
structure RightC (c : T_api_Config) : Prop where
  workers : 1 ≤ c.Workers ∧ c.Workers ≤ 64
  cpus : 1 ≤ c.CPUs ∧ c.CPUs ≤ 8
  pages : 1 ≤ c.Pages ∧ c.Pages ≤ 256
  stripes : 1 ≤ c.Stripes ∧ c.Stripes ≤ 64
  tries : 0 ≤ c.Tries ∧ c.Tries ≤ 16
  wait : 0 ≤ c.Wait ∧ c.Wait ≤ 64
  clock : 1 ≤ c.Clock ∧ c.Clock ≤ 1099511627776
  private_ : 1 ≤ c.Private ∧ c.Private ≤ 8
  cache : 0 ≤ c.Cache ∧ c.Cache ≤ 8
  bin : 0 ≤ c.Bin ∧ c.Bin ≤ 16
  batch : 1 ≤ c.Batch ∧ c.Batch ≤ 8

instance (c : T_api_Config) : Decidable (RightC c) :=
  decidable_of_iff ((1 ≤ c.Workers ∧ c.Workers ≤ 64) ∧ (1 ≤ c.CPUs ∧ c.CPUs ≤ 8) ∧ (1 ≤ c.Pages ∧ c.Pages ≤ 256) ∧ (1 ≤ c.Stripes ∧ c.Stripes ≤ 64) ∧ (0 ≤ c.Tries ∧ c.Tries ≤ 16) ∧ (0 ≤ c.Wait ∧ c.Wait ≤ 64) ∧
    (1 ≤ c.Clock ∧ c.Clock ≤ 1099511627776) ∧ (1 ≤ c.Private ∧ c.Private ≤ 8) ∧ (0 ≤ c.Cache ∧ c.Cache ≤ 8) ∧ (0 ≤ c.Bin ∧ c.Bin ≤ 16) ∧ (1 ≤ c.Batch ∧ c.Batch ≤ 8))
    ⟨fun ⟨a, b, d, e, f, g, h, i, j, k, l⟩ => ⟨a, b, d, e, f, g, h, i, j, k, l⟩, fun ⟨a, b, d, e, f, g, h, i, j, k, l⟩ => ⟨a, b, d, e, f, g, h, i, j, k, l⟩⟩

theorem holds_eq (x : T_layout_limit) : m_layout_limit_holds x = some (decide (x.low ≤ x.n ∧ x.n ≤ x.high)) := by
  unfold m_layout_limit_holds
  by_cases a : x.low ≤ x.n <;> by_cases b : x.n ≤ x.high <;> simp [a, b]

theorem Check_eq (c : T_api_Config) : m_layout_Check c = some (if RightC c then 0 else 2) := by
  unfold m_layout_Check
  simp only [holds_eq, Option.bind_some]
  by_cases h : RightC c
  · obtain ⟨a, b, d, e, f, g, h', i, j, k, l⟩ := h
    have hR : RightC c := ⟨a, b, d, e, f, g, h', i, j, k, l⟩
    simp [a, b, d, e, f, g, h', i, j, k, l, hR]
  · rw [if_neg h]
    by_cases a : 1 ≤ c.Workers ∧ c.Workers ≤ 64
    case neg => rw [decide_eq_false a]; rfl
    rw [decide_eq_true a]; simp only [Bool.not_true, cond_false]
    by_cases b : 1 ≤ c.CPUs ∧ c.CPUs ≤ 8
    case neg => rw [decide_eq_false b]; rfl
    rw [decide_eq_true b]; simp only [Bool.not_true, cond_false]
    by_cases d : 1 ≤ c.Pages ∧ c.Pages ≤ 256
    case neg => rw [decide_eq_false d]; rfl
    rw [decide_eq_true d]; simp only [Bool.not_true, cond_false]
    by_cases e : 1 ≤ c.Stripes ∧ c.Stripes ≤ 64
    case neg => rw [decide_eq_false e]; rfl
    rw [decide_eq_true e]; simp only [Bool.not_true, cond_false]
    by_cases f : 0 ≤ c.Tries ∧ c.Tries ≤ 16
    case neg => rw [decide_eq_false f]; rfl
    rw [decide_eq_true f]; simp only [Bool.not_true, cond_false]
    by_cases g : 0 ≤ c.Wait ∧ c.Wait ≤ 64
    case neg => rw [decide_eq_false g]; rfl
    rw [decide_eq_true g]; simp only [Bool.not_true, cond_false]
    by_cases h' : 1 ≤ c.Clock ∧ c.Clock ≤ 1099511627776
    case neg => rw [decide_eq_false h']; rfl
    rw [decide_eq_true h']; simp only [Bool.not_true, cond_false]
    by_cases i : 1 ≤ c.Private ∧ c.Private ≤ 8
    case neg => rw [decide_eq_false i]; rfl
    rw [decide_eq_true i]; simp only [Bool.not_true, cond_false]
    by_cases j : 0 ≤ c.Cache ∧ c.Cache ≤ 8
    case neg => rw [decide_eq_false j]; rfl
    rw [decide_eq_true j]; simp only [Bool.not_true, cond_false]
    by_cases k : 0 ≤ c.Bin ∧ c.Bin ≤ 16
    case neg => rw [decide_eq_false k]; rfl
    rw [decide_eq_true k]; simp only [Bool.not_true, cond_false]
    by_cases l : 1 ≤ c.Batch ∧ c.Batch ≤ 8
    case neg => rw [decide_eq_false l]; rfl
    rw [decide_eq_true l]; simp only [Bool.not_true, cond_false]
    exact (h ⟨a, b, d, e, f, g, h', i, j, k, l⟩).elim

/-- A layout. -/
def layC (c : T_api_Config) : T_layout_Layout :=
  let a0 := 3 + c.Stripes
  let a1 := a0 + (c.Pages + 3) / 4
  let a6 := a1 + 5 * c.Pages
  let a7 := a6 + 62
  let a8 := a7 + c.CPUs * 5 * (c.Cache + 1)
  let a9 := a8 + 5 * (c.Bin + 1)
  let a10 := (a9 + c.Pages * 32 + 127) / 128 * 128
  ⟨c, a0, a1, a1 + c.Pages, a1 + 2 * c.Pages, a1 + 3 * c.Pages, a1 + 4 * c.Pages, a6, a7, a8, a9, a10, a10 + c.Pages * 32⟩

def cOf (L : T_layout_Layout) : T_api_Config := L.c

theorem prodC {c : T_api_Config} (h : RightC c) : 5 ≤ c.CPUs * 5 * (c.Cache + 1) ∧ c.CPUs * 5 * (c.Cache + 1) ≤ 360 := by
  obtain ⟨h1, h2⟩ := h.cpus
  obtain ⟨h3, h4⟩ := h.cache
  have e : c.CPUs = 1 ∨ c.CPUs = 2 ∨ c.CPUs = 3 ∨ c.CPUs = 4 ∨ c.CPUs = 5 ∨ c.CPUs = 6 ∨ c.CPUs = 7 ∨ c.CPUs = 8 := by omega
  rcases e with e | e | e | e | e | e | e | e <;> rw [e] <;> omega

theorem chunks_eq {p : Int} (h : 0 ≤ p ∧ p ≤ 1000000) : m_layout_chunks p = some ((p + 3) / 4) := by
  unfold m_layout_chunks
  rw [wrap_id (x := p + 4) (by omega) (by omega), wrap_id (x := p + 4 - 1) (by omega) (by omega), Int.tdiv_eq_ediv_of_nonneg (by omega), wrap_id (by omega) (by omega)]
  congr 2; omega

theorem Of_eq (c : T_api_Config) : m_layout_Of c = some (if RightC c then (layC c, 0) else (⟨⟨0,0,0,0,0,0,0,0,0,0,0⟩,0,0,0,0,0,0,0,0,0,0,0,0⟩, 2)) := by
  unfold m_layout_Of
  rw [Check_eq]
  by_cases h : RightC c
  · simp only [if_pos h, Option.bind_some]
    rw [chunks_eq (by have := h.pages; omega)]
    have hp := prodC h
    have h1 := h.pages
    have h2 := h.stripes
    have h3 := h.cpus
    have h4 := h.cache
    have h5 := h.bin
    simp only [Option.bind_some, bne_self_eq_false, cond_false]
    have w5 : IntKind.i64.wrap (c.CPUs * 5) = c.CPUs * 5 := wrap_id (by omega) (by omega)
    have w6 : IntKind.i64.wrap (c.Cache + 1) = c.Cache + 1 := wrap_id (by omega) (by omega)
    have w7 : IntKind.i64.wrap (c.CPUs * 5 * (c.Cache + 1)) = c.CPUs * 5 * (c.Cache + 1) := wrap_id (by omega) (by omega)
    rw [w5, w6, w7]
    unfold layC
    generalize c.CPUs * 5 * (c.Cache + 1) = q at *
    simp (disch := omega) only [wrap_id, Int.tdiv_eq_ediv_of_nonneg]
    congr 2
    simp only [T_layout_Layout.mk.injEq, true_and]
    refine ⟨?_, ?_, ?_, ?_, ?_, ?_, ?_, ?_, ?_⟩ <;> omega
  · simp only [if_neg h, Option.bind_some]
    rfl

/-- What is known of a layout. -/
structure LayOK (L : T_layout_Layout) : Prop where
  cpus : 1 ≤ L.c.CPUs ∧ L.c.CPUs ≤ 8
  pages : 1 ≤ L.c.Pages ∧ L.c.Pages ≤ 256
  stripes : 1 ≤ L.c.Stripes ∧ L.c.Stripes ≤ 64
  private_ : 1 ≤ L.c.Private ∧ L.c.Private ≤ 8
  cache : 0 ≤ L.c.Cache ∧ L.c.Cache ≤ 8
  bin : 0 ≤ L.c.Bin ∧ L.c.Bin ≤ 16
  batch : 1 ≤ L.c.Batch ∧ L.c.Batch ≤ 8
  a0 : L.at_0 = 3 + L.c.Stripes
  a1 : L.at_1 = L.at_0 + (L.c.Pages + 3) / 4
  a2 : L.at_2 = L.at_1 + L.c.Pages
  a3 : L.at_3 = L.at_1 + 2 * L.c.Pages
  a4 : L.at_4 = L.at_1 + 3 * L.c.Pages
  a5 : L.at_5 = L.at_1 + 4 * L.c.Pages
  a6 : L.at_6 = L.at_1 + 5 * L.c.Pages
  a7 : L.at_7 = L.at_6 + 62
  a8 : L.at_8 = L.at_7 + L.c.CPUs * 5 * (L.c.Cache + 1)
  a8b : L.at_7 + 5 ≤ L.at_8 ∧ L.at_8 ≤ L.at_7 + 360
  a9 : L.at_9 = L.at_8 + 5 * (L.c.Bin + 1)
  a10 : L.at_10 = (L.at_9 + L.c.Pages * 32 + 127) / 128 * 128
  a11 : L.at_11 = L.at_10 + L.c.Pages * 32

theorem layC_ok {c : T_api_Config} (h : RightC c) : LayOK (layC c) := by
  have hp := prodC h
  refine ⟨h.cpus, h.pages, h.stripes, h.private_, h.cache, h.bin, h.batch, rfl, rfl, ?_, ?_, ?_, ?_, ?_, ?_, ?_, ?_, ?_, ?_, ?_⟩ <;> simp only [layC] <;> (try omega)

theorem Config_eq (L : T_layout_Layout) : m_layout_Layout_Config L = some (cOf L) := rfl
theorem Words_eq (L : T_layout_Layout) : m_layout_Layout_Words L = some L.at_11 := rfl
theorem Chunks_eq {L : T_layout_Layout} (h : LayOK L) : m_layout_Layout_Chunks L = some ((L.c.Pages + 3) / 4) := by
  unfold m_layout_Layout_Chunks
  rw [chunks_eq (by have := h.pages; omega)]; rfl

def lTab (L : T_layout_Layout) (k : Int) : Int := if 0 ≤ k ∧ k < (L.c.Pages + 3) / 4 then L.at_0 + k else 0
def lPg (L : T_layout_Layout) (at_ p : Int) : Int := if 0 ≤ p ∧ p < L.c.Pages then at_ + p else 0

theorem Table_eq {L : T_layout_Layout} (h : LayOK L) (k : Int) : m_layout_Layout_Table L k = some (lTab L k) := by
  unfold m_layout_Layout_Table
  rw [Chunks_eq h]
  have := h.pages; have := h.a0; have := h.stripes
  simp only [Option.bind_some, lTab]
  by_cases a : k < 0
  · rw [decide_eq_true a, if_neg (by omega)]; rfl
  · rw [decide_eq_false a]
    by_cases b : k < (L.c.Pages + 3) / 4
    · rw [decide_eq_false (show ¬ k ≥ (L.c.Pages + 3) / 4 by omega), if_pos (by omega), wrap_id (by omega) (by omega)]; rfl
    · rw [decide_eq_true (show k ≥ (L.c.Pages + 3) / 4 by omega), if_neg (by omega)]; rfl
theorem pg_eq {p n a : Int} (hn : 0 ≤ n ∧ n ≤ 1000) (ha : 0 ≤ a ∧ a ≤ 1000000) : (bif decide (p < 0) then some (0 : Int) else bif decide (p ≥ n) then some 0 else some (IntKind.i64.wrap (a + p))) = some (if 0 ≤ p ∧ p < n then a + p else 0) := by
  by_cases x : p < 0
  · rw [decide_eq_true x, if_neg (by omega)]; rfl
  · rw [decide_eq_false x]
    by_cases b : p < n
    · rw [decide_eq_false (show ¬ p ≥ n by omega), if_pos (by omega), wrap_id (by omega) (by omega)]; rfl
    · rw [decide_eq_true (show p ≥ n by omega), if_neg (by omega)]; rfl
theorem Kind_eq {L : T_layout_Layout} (h : LayOK L) (p : Int) : m_layout_Layout_Kind L p = some (lPg L L.at_1 p) := pg_eq (by have := h.pages; omega) (by have := h.pages; have := h.a0; have := h.stripes; have := h.a1; omega)
theorem Count_eq {L : T_layout_Layout} (h : LayOK L) (p : Int) : m_layout_Layout_Count L p = some (lPg L L.at_2 p) := pg_eq (by have := h.pages; omega) (by have := h.pages; have := h.a0; have := h.stripes; have := h.a1; have := h.a2; omega)
theorem Bits_eq {L : T_layout_Layout} (h : LayOK L) (p : Int) : m_layout_Layout_Bits L p = some (lPg L L.at_3 p) := pg_eq (by have := h.pages; omega) (by have := h.pages; have := h.a0; have := h.stripes; have := h.a1; have := h.a3; omega)
theorem mul_b {x y a b : Int} (hx : 0 ≤ x ∧ x ≤ a) (hy : 0 ≤ y ∧ y ≤ b) : 0 ≤ x * y ∧ x * y ≤ a * b :=
  ⟨Int.mul_nonneg hx.1 hy.1, Int.mul_le_mul hx.2 hy.2 hy.1 (by omega)⟩
theorem LayOK.big {L : T_layout_Layout} (h : LayOK L) : 128 ≤ L.at_10 ∧ L.at_10 ≤ 20000 ∧ L.at_9 + L.c.Pages * 32 ≤ L.at_10 ∧ 0 ≤ L.at_9 := by
  have := h.pages; have := h.a0; have := h.stripes; have := h.a1; have := h.a6; have := h.a7; have h3 := h.a8b; have h4 := h.bin; have := h.a9; have := h.a10
  omega
end Go.Rx
end

section
/- Layer 8, plainly: which chunks of pages are mapped. -/
namespace Go.Rx
open Go.Proofs

def thereB (pg k : Int) : Bool := decide (0 ≤ k) && decide (k < (pg + 3) / 4)

def pagesI (pg k : Int) : Int := bif thereB pg k then 4 * k else 0

def pagesN (pg k : Int) : Int := bif thereB pg k then min 4 (pg - 4 * k) else 0

def chunkI (p : Int) : Int := bif decide (p < 0) then -1 else p / 4

def spanB (pg p n : Int) : Bool := decide (1 ≤ n) && (decide (0 ≤ p) && (decide (p < pg) && decide (n ≤ pg - p)))

def isB (cur : List Int) (pg tb k st : Int) : Bool := thereB pg k && (cur.getD (tb + k).toNat 0 == st)

def turnB (cur : List Int) (pg tb k st : Int) : Bool := thereB pg k && !((cur.getD (tb + k).toNat 0 == 1) == (st == 1))

def turnU (cur : List Int) (pg tb k st : Int) : List Int := bif turnB cur pg tb k st then cur.set (tb + k).toNat st else cur

/-- So many chunks, from one on, are turned to be mapped: how many pages were turned, and the words then. -/
def ensG (pg tb : Int) (cur : List Int) (a : Int) : Nat → Int × List Int
  | 0 => (0, cur)
  | n + 1 => (bif turnB (ensG pg tb cur a n).2 pg tb (a + n) 1 then (ensG pg tb cur a n).1 + pagesN pg (a + n) else (ensG pg tb cur a n).1, turnU (ensG pg tb cur a n).2 pg tb (a + n) 1)

def ensK (pg p n : Int) : Nat := bif spanB pg p n then ((p + n - 1) / 4 - p / 4 + 1).toNat else 0

def ensM (cur : List Int) (pg tb p n : Int) : Int × List Int := ensG pg tb cur (p / 4) (ensK pg p n)

theorem there_of {pg k : Int} (h : thereB pg k = true) : 0 ≤ k ∧ k < (pg + 3) / 4 := by
  unfold thereB at h; simpa using h

theorem turnU_len (cur : List Int) (pg tb k st : Int) : (turnU cur pg tb k st).length = cur.length := by
  unfold turnU; cases turnB cur pg tb k st <;> simp

theorem ensG_len (pg tb : Int) (cur : List Int) (a : Int) : ∀ n, (ensG pg tb cur a n).2.length = cur.length
  | 0 => rfl
  | n + 1 => by rw [ensG, turnU_len, ensG_len]

theorem pagesN_le (pg k : Int) : 0 ≤ pagesN pg k ∧ pagesN pg k ≤ 4 := by
  unfold pagesN
  cases h : thereB pg k with
  | false => exact ⟨Int.le_refl _, by show (0 : Int) ≤ 4; omega⟩
  | true =>
    unfold thereB at h
    simp at h
    show 0 ≤ min 4 (pg - 4 * k) ∧ min 4 (pg - 4 * k) ≤ 4
    omega

theorem ensG_le (pg tb : Int) (cur : List Int) (a : Int) : ∀ n : Nat, 0 ≤ (ensG pg tb cur a n).1 ∧ (ensG pg tb cur a n).1 ≤ 4 * (n : Int)
  | 0 => ⟨Int.le_refl _, by show (0 : Int) ≤ 4 * 0; omega⟩
  | n + 1 => by
    have h1 := ensG_le pg tb cur a n
    have h2 := pagesN_le pg (a + n)
    simp only [ensG]
    cases turnB (ensG pg tb cur a n).2 pg tb (a + n) 1 with
    | false => exact ⟨h1.1, by show (ensG pg tb cur a n).1 ≤ _; omega⟩
    | true => exact ⟨by show 0 ≤ (ensG pg tb cur a n).1 + _; omega, by show (ensG pg tb cur a n).1 + _ ≤ _; omega⟩

theorem span_of {pg p n : Int} (h : spanB pg p n = true) : 1 ≤ n ∧ 0 ≤ p ∧ p < pg ∧ n ≤ pg - p := by
  unfold spanB at h; simpa using h

def cntN (cur : List Int) (pg tb : Int) : Nat → Int
  | 0 => 0
  | n + 1 => cntN cur pg tb n + (bif isB cur pg tb n 1 then pagesN pg n else 0)
def chunksN (pg : Int) : Nat := ((pg + 3) / 4).toNat
/-- How many pages are mapped. -/
def countM (cur : List Int) (pg tb : Int) : Int := cntN cur pg tb (chunksN pg)
theorem isB_set {cur : List Int} {pg tb k j x : Int} (htb : 0 ≤ tb) (hk : thereB pg k = true) (hl : tb + (pg + 3) / 4 ≤ (cur.length : Int)) :
    isB (cur.set (tb + k).toNat x) pg tb j 1 = if j = k then x == 1 else isB cur pg tb j 1 := by
  obtain ⟨k1, k2⟩ := there_of hk
  unfold isB
  by_cases e : j = k
  · subst e
    rw [if_pos rfl, hk, List.getD, List.getElem?_set_self (by omega)]
    rfl
  · rw [if_neg e]
    cases hj : thereB pg j with
    | false => rfl
    | true =>
      obtain ⟨j1, j2⟩ := there_of hj
      rw [List.getD, List.getElem?_set_ne (by omega)]
      rfl

theorem turn_isB {cur : List Int} {pg tb k st : Int} (htb : 0 ≤ tb) (hk : thereB pg k = true) (hl : tb + (pg + 3) / 4 ≤ (cur.length : Int)) (j : Int) :
    isB (turnU cur pg tb k st) pg tb j 1 = if j = k then st == 1 else isB cur pg tb j 1 := by
  unfold turnU
  cases ht : turnB cur pg tb k st with
  | true => exact isB_set htb hk hl
  | false =>
    show isB cur pg tb j 1 = _
    by_cases e : j = k
    · subst e
      rw [if_pos rfl]
      unfold turnB at ht
      unfold isB
      rw [hk] at ht ⊢
      simp only [Bool.true_and, Bool.not_eq_false'] at ht ⊢
      exact eq_of_beq ht
    · rw [if_neg e]

/-- By how much turning a chunk changes how many pages are mapped. -/
def byM (cur : List Int) (pg tb k st : Int) : Int := bif turnB cur pg tb k st then (bif st == 1 then pagesN pg k else - pagesN pg k) else 0

theorem turn_no {cur : List Int} {pg tb k st : Int} (h : turnB cur pg tb k st = false) : turnU cur pg tb k st = cur ∧ byM cur pg tb k st = 0 := by
  unfold turnU byM; rw [h]; exact ⟨rfl, rfl⟩

theorem turnB_isB {cur : List Int} {pg tb k st : Int} (hk : thereB pg k = true) : turnB cur pg tb k st = !(isB cur pg tb k 1 == (st == 1)) := by
  unfold turnB isB; rw [hk]; simp only [Bool.true_and]

theorem cnt_turn {cur : List Int} {pg tb k st : Int} (htb : 0 ≤ tb) (hk : thereB pg k = true) (hl : tb + (pg + 3) / 4 ≤ (cur.length : Int)) : ∀ n : Nat,
    cntN (turnU cur pg tb k st) pg tb n = cntN cur pg tb n + (if k < (n : Int) then byM cur pg tb k st else 0)
  | 0 => by
    have := (there_of hk).1
    rw [if_neg (by omega)]
    rfl
  | n + 1 => by
    have ih := cnt_turn htb hk hl (st := st) n
    obtain ⟨k1, k2⟩ := there_of hk
    simp only [cntN]
    rw [ih, turn_isB htb hk hl]
    by_cases e : (n : Int) = k
    · rw [if_pos e, if_neg (by omega), if_pos (by omega)]
      unfold byM
      rw [turnB_isB hk, e]
      cases isB cur pg tb k 1 <;> cases hs : (st == 1) <;> simp <;> omega
    · rw [if_neg e]
      by_cases e2 : k < (n : Int)
      · rw [if_pos e2, if_pos (by omega)]; omega
      · rw [if_neg e2, if_neg (by omega)]; omega

theorem count_turn {cur : List Int} {pg tb k st : Int} (htb : 0 ≤ tb) (hl : tb + (pg + 3) / 4 ≤ (cur.length : Int)) : countM (turnU cur pg tb k st) pg tb = countM cur pg tb + byM cur pg tb k st := by
  cases hk : thereB pg k with
  | false =>
    have : turnB cur pg tb k st = false := by unfold turnB; rw [hk]; rfl
    rw [(turn_no this).1, (turn_no this).2]; omega
  | true =>
    obtain ⟨k1, k2⟩ := there_of hk
    unfold countM
    rw [cnt_turn htb hk hl, if_pos (by unfold chunksN; omega)]

theorem count_ens {pg tb : Int} {cur : List Int} (htb : 0 ≤ tb) (hl : tb + (pg + 3) / 4 ≤ (cur.length : Int)) (a : Int) : ∀ n, countM (ensG pg tb cur a n).2 pg tb = countM cur pg tb + (ensG pg tb cur a n).1
  | 0 => by show countM cur pg tb = countM cur pg tb + 0; omega
  | n + 1 => by
    have ih := count_ens htb hl a n
    simp only [ensG]
    rw [count_turn htb (by rw [ensG_len]; exact hl), ih]
    unfold byM
    cases turnB (ensG pg tb cur a n).2 pg tb (a + n) 1 with
    | false => show _ + (ensG pg tb cur a n).1 + 0 = _ + (ensG pg tb cur a n).1; omega
    | true => show _ + (ensG pg tb cur a n).1 + pagesN pg (a + n) = _ + ((ensG pg tb cur a n).1 + pagesN pg (a + n)); omega

theorem ens_isB {pg tb : Int} {cur : List Int} (htb : 0 ≤ tb) (hl : tb + (pg + 3) / 4 ≤ (cur.length : Int)) (a j : Int) : ∀ n : Nat, (∀ i : Nat, i < n → thereB pg (a + i) = true) →
    isB (ensG pg tb cur a n).2 pg tb j 1 = (isB cur pg tb j 1 || (decide (a ≤ j) && decide (j < a + n)))
  | 0, _ => by
    show isB cur pg tb j 1 = _
    have : (decide (a ≤ j) && decide (j < a + ((0 : Nat) : Int))) = false := by
      by_cases h : a ≤ j
      · rw [decide_eq_false (show ¬ j < a + ((0 : Nat) : Int) by omega)]; simp
      · rw [decide_eq_false h]; rfl
    rw [this, Bool.or_false]
  | n + 1, hn => by
    have ih := ens_isB htb hl a j n (fun i hi => hn i (by omega))
    simp only [ensG]
    rw [turn_isB htb (hn n (by omega)) (by rw [ensG_len]; exact hl), ih]
    by_cases e : j = a + n
    · rw [if_pos e, decide_eq_true (show a ≤ j by omega), decide_eq_true (show j < a + ((n + 1 : Nat) : Int) by omega)]; simp
    · rw [if_neg e]
      congr 2
      by_cases h : j < a + (n : Int)
      · rw [decide_eq_true h, decide_eq_true (show j < a + ((n + 1 : Nat) : Int) by omega)]
      · rw [decide_eq_false h, decide_eq_false (show ¬ j < a + ((n + 1 : Nat) : Int) by omega)]

theorem ens_there {pg p n : Int} (h : spanB pg p n = true) : ∀ i : Nat, i < ensK pg p n → thereB pg (p / 4 + i) = true := by
  intro i hi
  obtain ⟨s1, s2, s3, s4⟩ := span_of h
  unfold ensK at hi
  rw [h] at hi
  have hi : i < ((p + n - 1) / 4 - p / 4 + 1).toNat := hi
  unfold thereB
  rw [decide_eq_true (show 0 ≤ p / 4 + (i : Int) by omega), decide_eq_true (show p / 4 + (i : Int) < (pg + 3) / 4 by omega)]
  rfl

/-- No word changes but the table's. -/
theorem turn_out {cur : List Int} {pg tb k st : Int} {j : Nat} (htb : 0 ≤ tb) (h : (j : Int) < tb ∨ tb + (pg + 3) / 4 ≤ (j : Int)) : (turnU cur pg tb k st)[j]? = cur[j]? := by
  unfold turnU
  cases ht : turnB cur pg tb k st with
  | false => rfl
  | true =>
    have hk : thereB pg k = true := by unfold turnB at ht; simp only [Bool.and_eq_true] at ht; exact ht.1
    obtain ⟨k1, k2⟩ := there_of hk
    show (cur.set _ _)[j]? = _
    rw [List.getElem?_set_ne (by omega)]

theorem ens_out {cur : List Int} {pg tb a : Int} {j : Nat} (htb : 0 ≤ tb) (h : (j : Int) < tb ∨ tb + (pg + 3) / 4 ≤ (j : Int)) : ∀ n, (ensG pg tb cur a n).2[j]? = cur[j]?
  | 0 => rfl
  | n + 1 => by simp only [ensG]; rw [turn_out htb h, ens_out htb h n]


/-- How many of the first pages are mapped. -/
def rcN (cur : List Int) (pg tb : Int) : Nat → Int
  | 0 => 0
  | n + 1 => rcN cur pg tb n + (bif isB cur pg tb ((n : Int) / 4) 1 then 1 else 0)
/-- Pages, from one on, are to be mapped. -/
def rensN (cur : List Int) (pg tb p : Int) : Nat → List Int
  | 0 => cur
  | n + 1 => turnU (rensN cur pg tb p n) pg tb ((p + n) / 4) 1

theorem rc_add {cur : List Int} {pg tb : Int} (m : Nat) : ∀ k : Nat, k ≤ 4 → rcN cur pg tb (4 * m + k) = rcN cur pg tb (4 * m) + (bif isB cur pg tb m 1 then (k : Int) else 0)
  | 0, _ => by cases isB cur pg tb m 1 <;> simp
  | k + 1, hk => by
    have ih := rc_add (cur := cur) (pg := pg) (tb := tb) m k (by omega)
    have e : 4 * m + (k + 1) = (4 * m + k) + 1 := by omega
    rw [e]
    simp only [rcN]
    have e2 : ((4 * m + k : Nat) : Int) / 4 = m := by omega
    rw [ih, e2]
    cases isB cur pg tb m 1 with
    | false => show _ + (0 : Int) + 0 = _ + 0; omega
    | true => show _ + (k : Int) + 1 = _ + ((k + 1 : Nat) : Int); omega

theorem rc_chunks {cur : List Int} {pg tb : Int} (hpg : 0 ≤ pg) : ∀ m : Nat, m ≤ chunksN pg → rcN cur pg tb (min (4 * m) pg.toNat) = cntN cur pg tb m
  | 0, _ => by simp [rcN, cntN]
  | m + 1, hm => by
    have ih := rc_chunks (cur := cur) (tb := tb) hpg m (by omega)
    unfold chunksN at hm
    have h1 : 4 * m < pg.toNat := by omega
    rw [Nat.min_eq_left (by omega)] at ih
    have e : min (4 * (m + 1)) pg.toNat = 4 * m + min 4 (pg.toNat - 4 * m) := by omega
    rw [e, rc_add m _ (by omega), ih]
    simp only [cntN]
    have hk : thereB pg m = true := by
      unfold thereB
      rw [decide_eq_true (show (0 : Int) ≤ m by omega), decide_eq_true (show (m : Int) < (pg + 3) / 4 by omega)]; rfl
    have hp : pagesN pg m = ((min 4 (pg.toNat - 4 * m) : Nat) : Int) := by
      unfold pagesN; rw [hk]
      show min 4 (pg - 4 * (m : Int)) = _
      omega
    rw [hp]

theorem rc_count {cur : List Int} {pg tb : Int} (hpg : 0 ≤ pg) : rcN cur pg tb pg.toNat = countM cur pg tb := by
  have := rc_chunks (cur := cur) (tb := tb) hpg (chunksN pg) (Nat.le_refl _)
  rw [Nat.min_eq_right (by unfold chunksN; omega)] at this
  exact this

theorem ensK_span {pg p n : Int} (h : spanB pg p n = true) : ensK pg p n = ((p + n - 1) / 4 - p / 4 + 1).toNat := by
  unfold ensK; rw [h]; rfl

theorem rens_ens {cur : List Int} {pg tb p n : Int} (htb : 0 ≤ tb) (hl : tb + (pg + 3) / 4 ≤ (cur.length : Int)) (h : spanB pg p n = true) : ∀ j : Nat, ((j : Int) < n) →
    rensN cur pg tb p (j + 1) = (ensG pg tb cur (p / 4) ((p + j) / 4 - p / 4 + 1).toNat).2
  | 0, _ => by
    have e : ((p + ((0 : Nat) : Int)) / 4 - p / 4 + 1).toNat = 1 := by omega
    rw [e]
    have e2 : (p + ((0 : Nat) : Int)) / 4 = p / 4 + ((0 : Nat) : Int) := by omega
    simp only [rensN, ensG, e2]
  | j + 1, hj => by
    have ih := rens_ens htb hl h j (by omega)
    obtain ⟨s1, s2, s3, s4⟩ := span_of h
    show turnU (rensN cur pg tb p (j + 1)) pg tb ((p + ((j + 1 : Nat) : Int)) / 4) 1 = _
    rw [ih]
    by_cases e : (p + ((j + 1 : Nat) : Int)) / 4 = (p + j) / 4
    · rw [e]
      have hth : ∀ i : Nat, i < ((p + j) / 4 - p / 4 + 1).toNat → thereB pg (p / 4 + i) = true := fun i hi => ens_there h i (by rw [ensK_span h]; omega)
      have hk : thereB pg ((p + j) / 4) = true := by
        have := hth ((p + j) / 4 - p / 4).toNat (by omega)
        have e3 : p / 4 + (((p + j) / 4 - p / 4).toNat : Int) = (p + j) / 4 := by omega
        rw [e3] at this
        exact this
      have hB : isB (ensG pg tb cur (p / 4) ((p + j) / 4 - p / 4 + 1).toNat).2 pg tb ((p + j) / 4) 1 = true := by
        rw [ens_isB htb hl _ _ _ hth, decide_eq_true (show p / 4 ≤ (p + j) / 4 by omega), decide_eq_true (show (p + j) / 4 < p / 4 + (((p + j) / 4 - p / 4 + 1).toNat : Int) by omega)]
        simp
      have ht : turnB (ensG pg tb cur (p / 4) ((p + j) / 4 - p / 4 + 1).toNat).2 pg tb ((p + j) / 4) 1 = false := by rw [turnB_isB hk, hB]; rfl
      exact (turn_no ht).1
    · have e4 : ((p + ((j + 1 : Nat) : Int)) / 4 - p / 4 + 1).toNat = ((p + j) / 4 - p / 4 + 1).toNat + 1 := by omega
      rw [e4]
      simp only [ensG]
      have e5 : p / 4 + ((((p + j) / 4 - p / 4 + 1).toNat : Nat) : Int) = (p + ((j + 1 : Nat) : Int)) / 4 := by omega
      rw [e5]

theorem rens_all {cur : List Int} {pg tb p n : Int} (htb : 0 ≤ tb) (hl : tb + (pg + 3) / 4 ≤ (cur.length : Int)) (h : spanB pg p n = true) : rensN cur pg tb p n.toNat = (ensM cur pg tb p n).2 := by
  obtain ⟨s1, s2, s3, s4⟩ := span_of h
  have e : n.toNat = (n.toNat - 1) + 1 := by omega
  rw [e, rens_ens htb hl h (n.toNat - 1) (by omega)]
  unfold ensM
  rw [ensK_span h]
  have e2 : (p + ((n.toNat - 1 : Nat) : Int)) = p + n - 1 := by omega
  rw [e2]

/-! What the program's functions tell. -/
theorem imin4 (x : Int) : (if x < 4 then x else 4) = min 4 x := by rw [Int.min_def]; split <;> split <;> omega
theorem cOf_eq {p : Int} (h : -9223372036854775808 ≤ p ∧ p ≤ 9223372036854775807) : m_chunk_Of p = some (chunkI p) := by
  unfold m_chunk_Of chunkI
  by_cases a : p < 0
  · rw [decide_eq_true a]; rfl
  · rw [decide_eq_false a, Int.tdiv_eq_ediv_of_nonneg (by omega), wrap_id (by omega) (by omega)]; rfl
theorem there_eq {L : T_layout_Layout} (h : LayOK L) (k : Int) : m_chunk_one_there ⟨L, k⟩ = some (thereB L.c.Pages k) := by
  unfold m_chunk_one_there thereB
  simp only [Chunks_eq h, Option.bind_some]
  by_cases a : 0 ≤ k
  · rw [decide_eq_true (show k ≥ 0 from a)]; rfl
  · rw [decide_eq_false (show ¬ k ≥ 0 from a)]; rfl
theorem opages_eq {L : T_layout_Layout} (h : LayOK L) (k : Int) : m_chunk_one_pages ⟨L, k⟩ = some (pagesI L.c.Pages k, pagesN L.c.Pages k) := by
  unfold m_chunk_one_pages pagesI pagesN
  simp only [there_eq h, Config_eq, Option.bind_some, cOf]
  have := h.pages
  cases hk : thereB L.c.Pages k with
  | false => rfl
  | true =>
    obtain ⟨k1, k2⟩ := there_of hk
    simp only [Bool.not_true, cond_false, cond_true]
    rw [wrap_id (x := k * 4) (by omega) (by omega), wrap_id (by omega) (by omega), imin4, Int.mul_comm k 4]
theorem Pages_eq {L : T_layout_Layout} (h : LayOK L) (k : Int) : m_chunk_Pages L k = some (pagesI L.c.Pages k, pagesN L.c.Pages k) := by
  unfold m_chunk_Pages
  rw [opages_eq h]; rfl
theorem span_eq {L : T_layout_Layout} (h : LayOK L) {p n : Int} (hp : -9223372036854775808 ≤ p ∧ p ≤ 9223372036854775807) : m_chunk_span L p n = some (if spanB L.c.Pages p n = true then (p / 4, (p + n - 1) / 4, true) else (0, 0, false)) := by
  unfold m_chunk_span spanB
  simp only [Config_eq, Option.bind_some, cOf]
  have := h.pages
  by_cases a : n < 1
  · rw [decide_eq_true a, decide_eq_false (show ¬ 1 ≤ n by omega)]; rfl
  rw [decide_eq_false a, decide_eq_true (show 1 ≤ n by omega)]
  by_cases b : p < 0
  · rw [decide_eq_true b, decide_eq_false (show ¬ 0 ≤ p by omega)]; rfl
  rw [decide_eq_false b, decide_eq_true (show 0 ≤ p by omega)]
  by_cases c : p < L.c.Pages
  · rw [decide_eq_false (show ¬ p ≥ L.c.Pages by omega), decide_eq_true c, wrap_id (x := L.c.Pages - p) (by omega) (by omega)]
    by_cases d : n ≤ L.c.Pages - p
    · rw [decide_eq_false (show ¬ n > L.c.Pages - p by omega), decide_eq_true d, wrap_id (x := p + n) (by omega) (by omega), wrap_id (x := p + n - 1) (by omega) (by omega), cOf_eq (by omega), cOf_eq (by omega)]
      unfold chunkI
      rw [decide_eq_false b, decide_eq_false (show ¬ p + n - 1 < 0 by omega)]; rfl
    · rw [decide_eq_true (show n > L.c.Pages - p by omega), decide_eq_false d]; rfl
  · rw [decide_eq_true (show p ≥ L.c.Pages by omega), decide_eq_false c]; rfl

/-- Words that a layout's are among. -/
structure VOK (L : T_layout_Layout) (nw : Nat) (cur : List Int) : Prop where
  lay : LayOK L
  len : cur.length = nw
  all : L.at_11 ≤ (nw : Int)

theorem rd_getD (cur : List Int) (a : Int) : rd cur a = cur.getD a.toNat 0 := rfl
theorem tab_in {L : T_layout_Layout} {nw : Nat} {cur : List Int} (v : VOK L nw cur) {k : Int} (hk : thereB L.c.Pages k = true) : lTab L k = L.at_0 + k ∧ inR (L.at_0 + k) nw = true := by
  obtain ⟨k1, k2⟩ := there_of hk
  have := v.lay.big; have := v.lay.a11; have := v.lay.pages; have := v.all; have := v.lay.a0; have := v.lay.stripes; have := v.lay.a1; have := v.lay.a6; have := v.lay.a7; have h3 := v.lay.a8b; have h4 := v.lay.bin; have := v.lay.a9
  refine ⟨by unfold lTab; rw [if_pos ⟨k1, k2⟩], inR_int (by omega) (by omega)⟩
theorem VOK.tab {L : T_layout_Layout} {nw : Nat} {cur : List Int} (v : VOK L nw cur) : 0 ≤ L.at_0 ∧ L.at_0 + (L.c.Pages + 3) / 4 ≤ (cur.length : Int) := by
  have := v.lay.big; have := v.lay.a11; have := v.lay.pages; have := v.all; have := v.lay.a0; have := v.lay.stripes; have := v.lay.a1; have := v.lay.a6; have := v.lay.a7; have h3 := v.lay.a8b; have h4 := v.lay.bin; have := v.lay.a9
  have := v.len
  omega
theorem is_eq {L : T_layout_Layout} {nw : Nat} {cur : List Int} (v : VOK L nw cur) (k st : Int) : m_chunk_one_is nw cur ⟨L, k⟩ st = some (isB cur L.c.Pages L.at_0 k st) := by
  unfold m_chunk_one_is isB
  simp only [there_eq v.lay, Table_eq v.lay, Option.bind_some]
  cases hk : thereB L.c.Pages k with
  | false => rfl
  | true =>
    obtain ⟨h1, h2⟩ := tab_in v hk
    simp only [cond_true, h1, h2, Bool.true_and, rd_getD]
theorem turn_eq {L : T_layout_Layout} {nw : Nat} {cur : List Int} (v : VOK L nw cur) (k st : Int) : m_chunk_one_turn nw cur ⟨L, k⟩ st = some (turnB cur L.c.Pages L.at_0 k st, turnU cur L.c.Pages L.at_0 k st) := by
  unfold m_chunk_one_turn turnU turnB
  simp only [there_eq v.lay, Table_eq v.lay, is_eq v, Option.bind_some]
  cases hk : thereB L.c.Pages k with
  | false => rfl
  | true =>
    obtain ⟨h1, h2⟩ := tab_in v hk
    have e : isB cur L.c.Pages L.at_0 k 1 = (cur.getD (L.at_0 + k).toNat 0 == 1) := by unfold isB; rw [hk]; rfl
    rw [e]
    simp only [Bool.not_true, cond_false, h1, h2, cond_true, Bool.true_and]
    cases (cur.getD (L.at_0 + k).toNat 0 == 1) == (st == 1) <;> rfl
theorem VOK.turn {L : T_layout_Layout} {nw : Nat} {cur : List Int} (v : VOK L nw cur) (k st : Int) : VOK L nw (turnU cur L.c.Pages L.at_0 k st) := ⟨v.lay, by rw [turnU_len]; exact v.len, v.all⟩
theorem Map_eq {L : T_layout_Layout} {nw : Nat} {cur : List Int} (v : VOK L nw cur) (k : Int) : m_chunk_Map nw cur L k = some (turnB cur L.c.Pages L.at_0 k 1, turnU cur L.c.Pages L.at_0 k 1) := by
  unfold m_chunk_Map; rw [turn_eq v]; rfl
theorem VOK.ens {L : T_layout_Layout} {nw : Nat} {cur : List Int} (v : VOK L nw cur) (p n : Int) : VOK L nw (ensM cur L.c.Pages L.at_0 p n).2 := ⟨v.lay, by unfold ensM; rw [ensG_len]; exact v.len, v.all⟩
theorem Ensure_eq {L : T_layout_Layout} {nw : Nat} {cur : List Int} (v : VOK L nw cur) {p n : Int} (hp : -9223372036854775808 ≤ p ∧ p ≤ 9223372036854775807) : m_chunk_Ensure nw cur L p n = some (ensM cur L.c.Pages L.at_0 p n) := by
  unfold m_chunk_Ensure
  rw [span_eq v.lay hp, Option.bind_some]
  unfold ensM
  cases hs : spanB L.c.Pages p n with
  | false =>
    have hm : ensK L.c.Pages p n = 0 := by unfold ensK; rw [hs]; rfl
    rw [hm]
    exact loopO_end rfl
  | true =>
    obtain ⟨s1, s2, s3, s4⟩ := span_of hs
    have hpg := v.lay.pages
    rw [ensK_span hs, if_pos rfl]
    generalize hG : ensG L.c.Pages L.at_0 cur (p / 4) = G
    have hGs : ∀ n : Nat, G (n + 1) = (bif turnB (G n).2 L.c.Pages L.at_0 (p / 4 + n) 1 then (G n).1 + pagesN L.c.Pages (p / 4 + n) else (G n).1, turnU (G n).2 L.c.Pages L.at_0 (p / 4 + n) 1) := fun n => by rw [← hG]; rfl
    have hGv : ∀ n : Nat, VOK L nw (G n).2 := fun n => ⟨v.lay, by rw [← hG, ensG_len]; exact v.len, v.all⟩
    have hGle : ∀ n : Nat, 0 ≤ (G n).1 ∧ (G n).1 ≤ 4 * (n : Int) := fun n => by rw [← hG]; exact ensG_le _ _ _ _ n
    obtain ⟨r, h1, rfl⟩ := loopO_ind (step := fun s : Int × Int × List Int => sb_chunk_Ensure_L1 nw L ((p + n - 1) / 4) true s.1 s.2.1 s.2.2)
      (I := fun s => ∃ j : Nat, (j : Int) ≤ (p + n - 1) / 4 - p / 4 + 1 ∧ s = ((G j).1, p / 4 + j, (G j).2))
      (μ := fun s => ((p + n - 1) / 4 + 1 - s.2.1).toNat) (fun r => r = G ((p + n - 1) / 4 - p / 4 + 1).toNat) (by
        rintro _ ⟨j, hj, rfl⟩
        simp only [sb_chunk_Ensure_L1, cond_true]
        have hle := hGle j
        have hpn := pagesN_le L.c.Pages (p / 4 + j)
        by_cases e : p / 4 + (j : Int) ≤ (p + n - 1) / 4
        · rw [decide_eq_true e, cond_true, Map_eq (hGv j), Option.bind_some, Pages_eq v.lay, Option.bind_some, wrap_id (x := p / 4 + (j : Int) + 1) (by omega) (by omega), wrap_id (by omega) (by omega)]
          refine .inl ⟨((G (j + 1)).1, p / 4 + ((j + 1 : Nat) : Int), (G (j + 1)).2), ?_, ⟨j + 1, by omega, rfl⟩, by simp only; omega⟩
          have e1 : p / 4 + ((j + 1 : Nat) : Int) = p / 4 + j + 1 := by omega
          rw [e1, hGs]
          cases turnB (G j).2 L.c.Pages L.at_0 (p / 4 + j) 1 <;> rfl
        · have ej : j = ((p + n - 1) / 4 - p / 4 + 1).toNat := by omega
          rw [decide_eq_false e, cond_false, ← ej]
          exact .inr ⟨_, rfl, rfl⟩) (0, p / 4, cur) ⟨0, by omega, by rw [← hG]; simp [ensG]⟩
    exact h1
end Go.Rx
end

section
/- Contracts. -/
namespace Go.Rx
open Go.Proofs
set_option maxRecDepth 100000
set_option maxHeartbeats 4000000
/-! (assart/assartref02.Layout).Chunks -/
def tr_ref02_Layout_Chunks (m_ : T_assartref02_Layout → Option (Int)) (args : List V) (H : Heap) (K : V → Heap → Prop) : Prop :=
  aC args fun a0 r => aN r <| aAgg a0 fun c0 => d_assartref02_Layout c0 fun l2 => aN H <| So (m_ l2) fun x => K (vi (x)) []
def sp_ref02_Layout_Chunks (m_ : T_assartref02_Layout → Option (Int)) : Spec := ⟨tr_ref02_Layout_Chunks m_, (true : Bool)⟩

/-! (assart/assartref02.Layout).table -/
def tr_ref02_Layout_table (m_ : T_assartref02_Layout → Option (Int)) (args : List V) (H : Heap) (K : V → Heap → Prop) : Prop :=
  aC args fun a0 r => aN r <| aAgg a0 fun c0 => d_assartref02_Layout c0 fun l2 => aN H <| So (m_ l2) fun x => K (vi (x)) []
def sp_ref02_Layout_table (m_ : T_assartref02_Layout → Option (Int)) : Spec := ⟨tr_ref02_Layout_table m_, (true : Bool)⟩

/-! (assart/assartref02.Layout).heads -/
def tr_ref02_Layout_heads (m_ : T_assartref02_Layout → Option (Int)) (args : List V) (H : Heap) (K : V → Heap → Prop) : Prop :=
  aC args fun a0 r => aN r <| aAgg a0 fun c0 => d_assartref02_Layout c0 fun l2 => aN H <| So (m_ l2) fun x => K (vi (x)) []
def sp_ref02_Layout_heads (m_ : T_assartref02_Layout → Option (Int)) : Spec := ⟨tr_ref02_Layout_heads m_, (true : Bool)⟩

/-! (assart/assartref02.Layout).caches -/
def tr_ref02_Layout_caches (m_ : T_assartref02_Layout → Option (Int)) (args : List V) (H : Heap) (K : V → Heap → Prop) : Prop :=
  aC args fun a0 r => aN r <| aAgg a0 fun c0 => d_assartref02_Layout c0 fun l2 => aN H <| So (m_ l2) fun x => K (vi (x)) []
def sp_ref02_Layout_caches (m_ : T_assartref02_Layout → Option (Int)) : Spec := ⟨tr_ref02_Layout_caches m_, (true : Bool)⟩

/-! (assart/assartref02.Layout).bins -/
def tr_ref02_Layout_bins (m_ : T_assartref02_Layout → Option (Int)) (args : List V) (H : Heap) (K : V → Heap → Prop) : Prop :=
  aC args fun a0 r => aN r <| aAgg a0 fun c0 => d_assartref02_Layout c0 fun l2 => aN H <| So (m_ l2) fun x => K (vi (x)) []
def sp_ref02_Layout_bins (m_ : T_assartref02_Layout → Option (Int)) : Spec := ⟨tr_ref02_Layout_bins m_, (true : Bool)⟩

/-! (assart/assartref02.Layout).live -/
def tr_ref02_Layout_live (m_ : T_assartref02_Layout → Option (Int)) (args : List V) (H : Heap) (K : V → Heap → Prop) : Prop :=
  aC args fun a0 r => aN r <| aAgg a0 fun c0 => d_assartref02_Layout c0 fun l2 => aN H <| So (m_ l2) fun x => K (vi (x)) []
def sp_ref02_Layout_live (m_ : T_assartref02_Layout → Option (Int)) : Spec := ⟨tr_ref02_Layout_live m_, (true : Bool)⟩

/-! (assart/assartref02.Layout).User -/
def tr_ref02_Layout_User (m_ : T_assartref02_Layout → Option (Int)) (args : List V) (H : Heap) (K : V → Heap → Prop) : Prop :=
  aC args fun a0 r => aN r <| aAgg a0 fun c0 => d_assartref02_Layout c0 fun l2 => aN H <| So (m_ l2) fun x => K (vi (x)) []
def sp_ref02_Layout_User (m_ : T_assartref02_Layout → Option (Int)) : Spec := ⟨tr_ref02_Layout_User m_, (true : Bool)⟩

/-! (assart/assartref02.Layout).Words -/
def tr_ref02_Layout_Words (m_ : T_assartref02_Layout → Option (Int)) (args : List V) (H : Heap) (K : V → Heap → Prop) : Prop :=
  aC args fun a0 r => aN r <| aAgg a0 fun c0 => d_assartref02_Layout c0 fun l2 => aN H <| So (m_ l2) fun x => K (vi (x)) []
def sp_ref02_Layout_Words (m_ : T_assartref02_Layout → Option (Int)) : Spec := ⟨tr_ref02_Layout_Words m_, (true : Bool)⟩

/-! assart/assartref02.at -/
def tr_ref02_at (m_ : Bool → Int → Option (Int)) (args : List V) (H : Heap) (K : V → Heap → Prop) : Prop :=
  aC args fun a0 r => aC r fun a1 r => aN r <| aBool a0 fun ok => aInt a1 fun a => aN H <| So (m_ ok a) fun x => K (vi (x)) []
def sp_ref02_at (m_ : Bool → Int → Option (Int)) : Spec := ⟨tr_ref02_at m_, (true : Bool)⟩

/-! (assart/assartref02.Layout).Table -/
def tr_ref02_Layout_Table (m_ : T_assartref02_Layout → Int → Option (Int)) (args : List V) (H : Heap) (K : V → Heap → Prop) : Prop :=
  aC args fun a0 r => aC r fun a1 r => aN r <| aAgg a0 fun c0 => d_assartref02_Layout c0 fun l2 => aInt a1 fun k => aN H <| So (m_ l2 k) fun x => K (vi (x)) []
def sp_ref02_Layout_Table (m_ : T_assartref02_Layout → Int → Option (Int)) : Spec := ⟨tr_ref02_Layout_Table m_, (true : Bool)⟩

/-! (assart/assartref02.Layout).page -/
def tr_ref02_Layout_page (m_ : T_assartref02_Layout → Int → Int → Option (Int)) (args : List V) (H : Heap) (K : V → Heap → Prop) : Prop :=
  aC args fun a0 r => aC r fun a1 r => aC r fun a2 r => aN r <| aAgg a0 fun c0 => d_assartref02_Layout c0 fun l2 => aInt a1 fun n => aInt a2 fun p => aN H <| So (m_ l2 n p) fun x => K (vi (x)) []
def sp_ref02_Layout_page (m_ : T_assartref02_Layout → Int → Int → Option (Int)) : Spec := ⟨tr_ref02_Layout_page m_, (true : Bool)⟩

/-! (assart/assartref02.Layout).Kind -/
def tr_ref02_Layout_Kind (m_ : T_assartref02_Layout → Int → Option (Int)) (args : List V) (H : Heap) (K : V → Heap → Prop) : Prop :=
  aC args fun a0 r => aC r fun a1 r => aN r <| aAgg a0 fun c0 => d_assartref02_Layout c0 fun l2 => aInt a1 fun p => aN H <| So (m_ l2 p) fun x => K (vi (x)) []
def sp_ref02_Layout_Kind (m_ : T_assartref02_Layout → Int → Option (Int)) : Spec := ⟨tr_ref02_Layout_Kind m_, (true : Bool)⟩

/-! (assart/assartref02.Layout).Count -/
def tr_ref02_Layout_Count (m_ : T_assartref02_Layout → Int → Option (Int)) (args : List V) (H : Heap) (K : V → Heap → Prop) : Prop :=
  aC args fun a0 r => aC r fun a1 r => aN r <| aAgg a0 fun c0 => d_assartref02_Layout c0 fun l2 => aInt a1 fun p => aN H <| So (m_ l2 p) fun x => K (vi (x)) []
def sp_ref02_Layout_Count (m_ : T_assartref02_Layout → Int → Option (Int)) : Spec := ⟨tr_ref02_Layout_Count m_, (true : Bool)⟩

/-! (assart/assartref02.Layout).Bits -/
def tr_ref02_Layout_Bits (m_ : T_assartref02_Layout → Int → Option (Int)) (args : List V) (H : Heap) (K : V → Heap → Prop) : Prop :=
  aC args fun a0 r => aC r fun a1 r => aN r <| aAgg a0 fun c0 => d_assartref02_Layout c0 fun l2 => aInt a1 fun p => aN H <| So (m_ l2 p) fun x => K (vi (x)) []
def sp_ref02_Layout_Bits (m_ : T_assartref02_Layout → Int → Option (Int)) : Spec := ⟨tr_ref02_Layout_Bits m_, (true : Bool)⟩

/-! (assart/assartref02.Layout).Next -/
/-! (assart/assartref02.Layout).Prev -/
/-! assart/assartref02.Slots -/
/-! (assart/assartref02.Layout).Head -/
/-! assart/assartlaw02.within -/
def tr_law02_within (m_ : Int → Int → Int → Option (Int)) (args : List V) (H : Heap) (K : V → Heap → Prop) : Prop :=
  aC args fun a0 r => aC r fun a1 r => aC r fun a2 r => aN r <| aInt a0 fun n => aInt a1 fun low => aInt a2 fun high => aN H <| So (m_ n low high) fun x => K (vi (x)) []
def sp_law02_within (m_ : Int → Int → Int → Option (Int)) : Spec := ⟨tr_law02_within m_, (true : Bool)⟩

/-! assart/assartlaw02.Some -/
def tr_law02_Some (m_ : T_api_Config → Option (T_api_Config)) (args : List V) (H : Heap) (K : V → Heap → Prop) : Prop :=
  aC args fun a0 r => aN r <| aAgg a0 fun c0 => d_api_Config c0 fun c => aN H <| So (m_ c) fun x => K (.agg (e_api_Config (x))) []
def sp_law02_Some (m_ : T_api_Config → Option (T_api_Config)) : Spec := ⟨tr_law02_Some m_, (true : Bool)⟩

/-! (assart/assartlaw01.Ints).Same -/
def tr_law01_Ints_Same (m_ : (List Int) → (List Int) → Option (Bool)) (args : List V) (H : Heap) (K : V → Heap → Prop) : Prop :=
  aC args fun a0 r => aC r fun a1 r => aN r <| aRow 0 a0 <| aRow 1 a1 <| aC H fun b0 r => aC r fun b1 r => aN r <| bRow 0 true b0 fun (a : List Int) => bRow 0 true b1 fun (b : List Int) => So (m_ a b) fun x => K (vb (x)) [.row 0 a true, .row 0 b true]
def sp_law01_Ints_Same (m_ : (List Int) → (List Int) → Option (Bool)) : Spec := ⟨tr_law01_Ints_Same m_, (true : Bool)⟩

noncomputable def cfg_ref02_Layout_Chunks  : Cfg := { cfgB with
  sigs := sigN }

noncomputable def cfg_ref02_Layout_table  : Cfg := { cfgB with
  sigs := sigN }

noncomputable def cfg_ref02_Layout_heads (m_ref02_Layout_table : T_assartref02_Layout → Option (Int)) (m_ref02_Layout_Chunks : T_assartref02_Layout → Option (Int)) : Cfg := { cfgB with
  sigs := (sigC 156 (sp_ref02_Layout_table m_ref02_Layout_table) (sigC 143 (sp_ref02_Layout_Chunks m_ref02_Layout_Chunks) sigN)),
  plan := fun r => match r with | 1 => some ([0, 2, 5, 6, 7, 8, 1, 3, 4, 9, 10], 0) | _ => none }

noncomputable def cfg_ref02_Layout_caches (m_ref02_Layout_heads : T_assartref02_Layout → Option (Int)) : Cfg := { cfgB with
  sigs := (sigC 139 (sp_ref02_Layout_heads m_ref02_Layout_heads) sigN) }

noncomputable def cfg_ref02_Layout_bins (m_ref02_Layout_caches : T_assartref02_Layout → Option (Int)) : Cfg := { cfgB with
  sigs := (sigC 163 (sp_ref02_Layout_caches m_ref02_Layout_caches) sigN),
  plan := fun r => match r with | 1 => some ([0, 2, 3, 4, 5, 6, 7, 8, 9, 10, 1, 11, 12], 0) | _ => none }

noncomputable def cfg_ref02_Layout_live (m_ref02_Layout_bins : T_assartref02_Layout → Option (Int)) : Cfg := { cfgB with
  sigs := (sigC 161 (sp_ref02_Layout_bins m_ref02_Layout_bins) sigN),
  plan := fun r => match r with | 1 => some ([0, 2, 3, 4, 5, 6, 1, 7, 8], 0) | _ => none }

noncomputable def cfg_ref02_Layout_User (m_ref02_Layout_live : T_assartref02_Layout → Option (Int)) : Cfg := { cfgB with
  sigs := (sigC 151 (sp_ref02_Layout_live m_ref02_Layout_live) sigN),
  plan := fun r => match r with | 1 => some ([0, 2, 3, 4, 5, 1, 6, 7, 8, 9, 10], 0) | _ => none }

noncomputable def cfg_ref02_Layout_Words (m_ref02_Layout_User : T_assartref02_Layout → Option (Int)) : Cfg := { cfgB with
  sigs := (sigC 120 (sp_ref02_Layout_User m_ref02_Layout_User) sigN),
  plan := fun r => match r with | 1 => some ([0, 2, 3, 4, 5, 1, 6, 7], 0) | _ => none }

noncomputable def cfg_ref02_at  : Cfg := { cfgB with
  sigs := sigN }

noncomputable def cfg_ref02_Layout_Table (m_ref02_Layout_Chunks : T_assartref02_Layout → Option (Int)) (m_ref02_Layout_table : T_assartref02_Layout → Option (Int)) (m_ref02_at : Bool → Int → Option (Int)) : Cfg := { cfgB with
  sigs := (sigC 143 (sp_ref02_Layout_Chunks m_ref02_Layout_Chunks) (sigC 156 (sp_ref02_Layout_table m_ref02_Layout_table) (sigC 138 (sp_ref02_at m_ref02_at) sigN))),
  plan := fun r => match r with | 1 => some ([0, 1, 2, 3, 4, 8, 10, 5, 6, 7, 9, 11, 12, 13], 0) | _ => none }

noncomputable def cfg_ref02_Layout_page (m_ref02_Layout_table : T_assartref02_Layout → Option (Int)) (m_ref02_Layout_Chunks : T_assartref02_Layout → Option (Int)) (m_ref02_at : Bool → Int → Option (Int)) : Cfg := { cfgB with
  sigs := (sigC 156 (sp_ref02_Layout_table m_ref02_Layout_table) (sigC 143 (sp_ref02_Layout_Chunks m_ref02_Layout_Chunks) (sigC 138 (sp_ref02_at m_ref02_at) sigN))),
  plan := fun r => match r with | 1 => some ([0, 1, 2, 3, 4, 5, 6, 7, 8, 9, 11, 14, 15, 16, 17, 18, 20, 10, 12, 13, 19, 21, 22, 23], 0) | _ => none }

noncomputable def cfg_ref02_Layout_Kind (m_ref02_Layout_page : T_assartref02_Layout → Int → Int → Option (Int)) : Cfg := { cfgB with
  sigs := (sigC 140 (sp_ref02_Layout_page m_ref02_Layout_page) sigN) }

noncomputable def cfg_ref02_Layout_Count (m_ref02_Layout_page : T_assartref02_Layout → Int → Int → Option (Int)) : Cfg := { cfgB with
  sigs := (sigC 140 (sp_ref02_Layout_page m_ref02_Layout_page) sigN) }

noncomputable def cfg_ref02_Layout_Bits (m_ref02_Layout_page : T_assartref02_Layout → Int → Int → Option (Int)) : Cfg := { cfgB with
  sigs := (sigC 140 (sp_ref02_Layout_page m_ref02_Layout_page) sigN) }

noncomputable def cfg_law02_within  : Cfg := { cfgB with
  sigs := sigN }

noncomputable def cfg_law02_Some (m_law02_within : Int → Int → Int → Option (Int)) : Cfg := { cfgB with
  sigs := (sigC 150 (sp_law02_within m_law02_within) sigN),
  plan := fun r => match r with | 1 => some ([0, 1, 3, 4, 6, 7, 9, 10, 12, 13, 15, 16, 18, 19, 21, 22, 24, 25, 27, 28, 30, 31, 2, 5, 8, 11, 14, 17, 20, 23, 26, 29, 32, 33, 34], 3) | _ => none,
  flag := fun d => Nat.beq d 2 }

noncomputable def cfg_law01_Ints_Same  : Cfg := { cfgB with
  sigs := sigN,
  keep := fun r => match r with | 4 => some [(0, some 0), (1, some 0), (5, none)] | _ => none,
  plan := fun r => match r with | 6 => some (List.range 9, 0) | _ => none }

theorem nf_ref02_Layout_Chunks (l2 : T_assartref02_Layout) (K : V → Heap → Prop) : (exF cfg_ref02_Layout_Chunks Try.f143 [.agg (e_assartref02_Layout l2)] [] K) = (
    K (vi (IntKind.wrap IntKind.i64 (Int.tdiv (IntKind.wrap IntKind.i64 (T_api_Config.Pages (T_assartref02_Layout.C l2) + 3)) 4))) []) := by
  kernel_rfl

theorem nf_ref02_Layout_table (l2 : T_assartref02_Layout) (K : V → Heap → Prop) : (exF cfg_ref02_Layout_table Try.f156 [.agg (e_assartref02_Layout l2)] [] K) = (
    K (vi (IntKind.wrap IntKind.i64 (3 + T_api_Config.Stripes (T_assartref02_Layout.C l2)))) []) := by
  kernel_rfl

theorem nf_ref02_Layout_heads (m_ref02_Layout_table : T_assartref02_Layout → Option (Int)) (m_ref02_Layout_Chunks : T_assartref02_Layout → Option (Int)) (l2 : T_assartref02_Layout) (K : V → Heap → Prop) : (exF (cfg_ref02_Layout_heads m_ref02_Layout_table m_ref02_Layout_Chunks) Try.f139 [.agg (e_assartref02_Layout l2)] [] K) = (
    So (m_ref02_Layout_table l2) (fun (y0 : Int) => (So (m_ref02_Layout_Chunks l2) (fun (y1 : Int) => (K (vi (IntKind.wrap IntKind.i64 (IntKind.wrap IntKind.i64 (y0 + y1) + IntKind.wrap IntKind.i64 (5 * T_api_Config.Pages (T_assartref02_Layout.C l2))))) []))))) := by
  kernel_rfl

theorem nf_ref02_Layout_caches (m_ref02_Layout_heads : T_assartref02_Layout → Option (Int)) (l2 : T_assartref02_Layout) (K : V → Heap → Prop) : (exF (cfg_ref02_Layout_caches m_ref02_Layout_heads) Try.f163 [.agg (e_assartref02_Layout l2)] [] K) = (
    So (m_ref02_Layout_heads l2) (fun (y0 : Int) => (K (vi (IntKind.wrap IntKind.i64 (y0 + 62))) []))) := by
  kernel_rfl

theorem nf_ref02_Layout_bins (m_ref02_Layout_caches : T_assartref02_Layout → Option (Int)) (l2 : T_assartref02_Layout) (K : V → Heap → Prop) : (exF (cfg_ref02_Layout_bins m_ref02_Layout_caches) Try.f161 [.agg (e_assartref02_Layout l2)] [] K) = (
    So (m_ref02_Layout_caches l2) (fun (y0 : Int) => (K (vi (IntKind.wrap IntKind.i64 (y0 + IntKind.wrap IntKind.i64 (IntKind.wrap IntKind.i64 (5 * T_api_Config.CPUs (T_assartref02_Layout.C l2)) * IntKind.wrap IntKind.i64 (T_api_Config.Cache (T_assartref02_Layout.C l2) + 1))))) []))) := by
  kernel_rfl

theorem nf_ref02_Layout_live (m_ref02_Layout_bins : T_assartref02_Layout → Option (Int)) (l2 : T_assartref02_Layout) (K : V → Heap → Prop) : (exF (cfg_ref02_Layout_live m_ref02_Layout_bins) Try.f151 [.agg (e_assartref02_Layout l2)] [] K) = (
    So (m_ref02_Layout_bins l2) (fun (y0 : Int) => (K (vi (IntKind.wrap IntKind.i64 (y0 + IntKind.wrap IntKind.i64 (5 * IntKind.wrap IntKind.i64 (T_api_Config.Bin (T_assartref02_Layout.C l2) + 1))))) []))) := by
  kernel_rfl

theorem nf_ref02_Layout_User (m_ref02_Layout_live : T_assartref02_Layout → Option (Int)) (l2 : T_assartref02_Layout) (K : V → Heap → Prop) : (exF (cfg_ref02_Layout_User m_ref02_Layout_live) Try.f120 [.agg (e_assartref02_Layout l2)] [] K) = (
    So (m_ref02_Layout_live l2) (fun (y0 : Int) => (K (vi (IntKind.wrap IntKind.i64 (IntKind.wrap IntKind.i64 (Int.tdiv (IntKind.wrap IntKind.i64 (IntKind.wrap IntKind.i64 (y0 + IntKind.wrap IntKind.i64 (32 * T_api_Config.Pages (T_assartref02_Layout.C l2))) + 127)) 128) * 128))) []))) := by
  kernel_rfl

theorem nf_ref02_Layout_Words (m_ref02_Layout_User : T_assartref02_Layout → Option (Int)) (l2 : T_assartref02_Layout) (K : V → Heap → Prop) : (exF (cfg_ref02_Layout_Words m_ref02_Layout_User) Try.f72 [.agg (e_assartref02_Layout l2)] [] K) = (
    So (m_ref02_Layout_User l2) (fun (y0 : Int) => (K (vi (IntKind.wrap IntKind.i64 (y0 + IntKind.wrap IntKind.i64 (32 * T_api_Config.Pages (T_assartref02_Layout.C l2))))) []))) := by
  kernel_rfl

theorem nf_ref02_at (ok : Bool) (a : Int) (K : V → Heap → Prop) : (exF cfg_ref02_at Try.f138 [vb ok, vi a] [] K) = (
    br (!ok) (K (vi (0)) []) (K (vi (a)) [])) := by
  kernel_rfl

theorem nf_ref02_Layout_Table (m_ref02_Layout_Chunks : T_assartref02_Layout → Option (Int)) (m_ref02_Layout_table : T_assartref02_Layout → Option (Int)) (m_ref02_at : Bool → Int → Option (Int)) (l2 : T_assartref02_Layout) (k : Int) (K : V → Heap → Prop) : (exF (cfg_ref02_Layout_Table m_ref02_Layout_Chunks m_ref02_Layout_table m_ref02_at) Try.f125 [.agg (e_assartref02_Layout l2), vi k] [] K) = (
    br (Decidable.decide (k ≥ 0)) (So (m_ref02_Layout_Chunks l2) (fun (y0 : Int) => (So (m_ref02_Layout_table l2) (fun (y1 : Int) => (So (m_ref02_at (Decidable.decide (k < y0)) (IntKind.wrap IntKind.i64 (y1 + k))) (fun (y2 : Int) => (K (vi (y2)) []))))))) (So (m_ref02_Layout_table l2) (fun (y3 : Int) => (So (m_ref02_at Bool.false (IntKind.wrap IntKind.i64 (y3 + k))) (fun (y4 : Int) => (K (vi (y4)) [])))))) := by
  kernel_rfl

theorem nf_ref02_Layout_page (m_ref02_Layout_table : T_assartref02_Layout → Option (Int)) (m_ref02_Layout_Chunks : T_assartref02_Layout → Option (Int)) (m_ref02_at : Bool → Int → Option (Int)) (l2 : T_assartref02_Layout) (n : Int) (p : Int) (K : V → Heap → Prop) : (exF (cfg_ref02_Layout_page m_ref02_Layout_table m_ref02_Layout_Chunks m_ref02_at) Try.f140 [.agg (e_assartref02_Layout l2), vi n, vi p] [] K) = (
    br (Decidable.decide (p ≥ 0)) (So (m_ref02_Layout_table l2) (fun (y0 : Int) => (So (m_ref02_Layout_Chunks l2) (fun (y1 : Int) => (So (m_ref02_at (Decidable.decide (p < T_api_Config.Pages (T_assartref02_Layout.C l2))) (IntKind.wrap IntKind.i64 (IntKind.wrap IntKind.i64 (IntKind.wrap IntKind.i64 (y0 + y1) + IntKind.wrap IntKind.i64 (n * T_api_Config.Pages (T_assartref02_Layout.C l2))) + p))) (fun (y2 : Int) => (K (vi (y2)) []))))))) (So (m_ref02_Layout_table l2) (fun (y3 : Int) => (So (m_ref02_Layout_Chunks l2) (fun (y4 : Int) => (So (m_ref02_at Bool.false (IntKind.wrap IntKind.i64 (IntKind.wrap IntKind.i64 (IntKind.wrap IntKind.i64 (y3 + y4) + IntKind.wrap IntKind.i64 (n * T_api_Config.Pages (T_assartref02_Layout.C l2))) + p))) (fun (y5 : Int) => (K (vi (y5)) [])))))))) := by
  kernel_rfl

theorem nf_ref02_Layout_Kind (m_ref02_Layout_page : T_assartref02_Layout → Int → Int → Option (Int)) (l2 : T_assartref02_Layout) (p : Int) (K : V → Heap → Prop) : (exF (cfg_ref02_Layout_Kind m_ref02_Layout_page) Try.f145 [.agg (e_assartref02_Layout l2), vi p] [] K) = (
    So (m_ref02_Layout_page l2 0 p) (fun (y0 : Int) => (K (vi (y0)) []))) := by
  kernel_rfl

theorem nf_ref02_Layout_Count (m_ref02_Layout_page : T_assartref02_Layout → Int → Int → Option (Int)) (l2 : T_assartref02_Layout) (p : Int) (K : V → Heap → Prop) : (exF (cfg_ref02_Layout_Count m_ref02_Layout_page) Try.f159 [.agg (e_assartref02_Layout l2), vi p] [] K) = (
    So (m_ref02_Layout_page l2 1 p) (fun (y0 : Int) => (K (vi (y0)) []))) := by
  kernel_rfl

theorem nf_ref02_Layout_Bits (m_ref02_Layout_page : T_assartref02_Layout → Int → Int → Option (Int)) (l2 : T_assartref02_Layout) (p : Int) (K : V → Heap → Prop) : (exF (cfg_ref02_Layout_Bits m_ref02_Layout_page) Try.f160 [.agg (e_assartref02_Layout l2), vi p] [] K) = (
    So (m_ref02_Layout_page l2 2 p) (fun (y0 : Int) => (K (vi (y0)) []))) := by
  kernel_rfl

theorem nf_law02_within (n : Int) (low : Int) (high : Int) (K : V → Heap → Prop) : (exF cfg_law02_within Try.f150 [vi n, vi low, vi high] [] K) = (
    Req (!IntKind.wrap IntKind.u64 (IntKind.wrap IntKind.i64 (IntKind.wrap IntKind.i64 (high - low) + 1)) == 0) (K (vi (IntKind.wrap IntKind.i64 (low + IntKind.wrap IntKind.i64 (Int.tmod (IntKind.wrap IntKind.u64 n) (IntKind.wrap IntKind.u64 (IntKind.wrap IntKind.i64 (IntKind.wrap IntKind.i64 (high - low) + 1))))))) [])) := by
  kernel_rfl

theorem nf_law02_Some (m_law02_within : Int → Int → Int → Option (Int)) (c : T_api_Config) (K : V → Heap → Prop) : (exF (cfg_law02_Some m_law02_within) Try.f119 [.agg (e_api_Config c)] [] K) = (
    So (m_law02_within (T_api_Config.Workers c) 1 64) (fun (y0 : Int) => (So (m_law02_within (T_api_Config.CPUs c) 1 8) (fun (y1 : Int) => (So (m_law02_within (T_api_Config.Pages c) 1 256) (fun (y2 : Int) => (So (m_law02_within (T_api_Config.Stripes c) 1 64) (fun (y3 : Int) => (So (m_law02_within (T_api_Config.Tries c) 0 16) (fun (y4 : Int) => (So (m_law02_within (T_api_Config.Wait c) 0 64) (fun (y5 : Int) => (So (m_law02_within (T_api_Config.Clock c) 1 1099511627776) (fun (y6 : Int) => (So (m_law02_within (T_api_Config.Private c) 1 8) (fun (y7 : Int) => (So (m_law02_within (T_api_Config.Cache c) 0 8) (fun (y8 : Int) => (So (m_law02_within (T_api_Config.Bin c) 0 16) (fun (y9 : Int) => (So (m_law02_within (T_api_Config.Batch c) 1 8) (fun (y10 : Int) => (K (.agg [vi (y0), vi (y1), vi (y2), vi (y3), vi (y4), vi (y5), vi (y6), vi (y7), vi (y8), vi (y9), vi (y10)]) []))))))))))))))))))))))) := by
  kernel_rfl

theorem nf_law01_Ints_Same_L1 (a : List Int) (b : List Int) (iv : Int) (K : V → Heap → Prop) (J1 : Env → Heap → Prop) : (ex cfg_law01_Ints_Same (⟨26, 2⟩ : Cx) (at_ (bodyOf Try.f20) [1, 1, 0, 1, 0, 0]) (mkEnv [(0, .row 0), (1, .row 1), (5, vi (iv))]) [.row 0 (a : List (Int)) Bool.true, .row 0 (b : List (Int)) Bool.true] (roundK cfg_law01_Ints_Same (⟨26, 2⟩ : Cx) (at_ (bodyOf Try.f20) [1, 1, 0, 1, 0, 0]) (contK cfg_law01_Ints_Same (⟨26, 2⟩ : Cx) (bodyOf Try.f20) [1, 1, 0, 1, 0] (retK cfg_law01_Ints_Same Try.f20 2 K)) J1)) = (
    br (Decidable.decide (iv < (↑(List.length a) : Int))) (Req (inR iv (List.length a)) (Req (inR (offs iv 0) (List.length a)) (Req (inR iv (List.length b)) (Req (inR (offs iv 0) (List.length b)) (br (List.getD a (Int.toNat (offs iv 0)) 0 != List.getD b (Int.toNat (offs iv 0)) 0) (K (vb (Bool.false)) [.row 0 (a : List (Int)) Bool.true, .row 0 (b : List (Int)) Bool.true]) (J1 (mkEnv [(0, .row 0), (1, .row 1), (5, vi (IntKind.wrap IntKind.i64 (iv + 1)))]) [.row 0 (a : List (Int)) Bool.true, .row 0 (b : List (Int)) Bool.true])))))) (K (vb (Bool.true)) [.row 0 (a : List (Int)) Bool.true, .row 0 (b : List (Int)) Bool.true])) := by
  kernel_rfl

theorem nf_law01_Ints_Same (a : List Int) (b : List Int) (K : V → Heap → Prop) : (exF cfg_law01_Ints_Same Try.f20 [.row 0, .row 1] [.row 0 a true, .row 0 b true] K) = (
    br ((↑(List.length a) : Int) != (↑(List.length b) : Int)) (K (vb (Bool.false)) [.row 0 (a : List (Int)) Bool.true, .row 0 (b : List (Int)) Bool.true]) (Loop cfg_law01_Ints_Same (⟨26, 2⟩ : Cx) (at_ (bodyOf Try.f20) [1, 1, 0, 1, 0, 0]) (mkEnv [(0, .row 0), (1, .row 1), (5, vi (0))]) [.row 0 (a : List (Int)) Bool.true, .row 0 (b : List (Int)) Bool.true] (contK cfg_law01_Ints_Same (⟨26, 2⟩ : Cx) (bodyOf Try.f20) [1, 1, 0, 1, 0] (retK cfg_law01_Ints_Same Try.f20 2 K)))) := by
  kernel_rfl

noncomputable def m_ref02_Layout_Chunks (l2 : T_assartref02_Layout) : Option (Int) :=
  some ((IntKind.wrap IntKind.i64 (Int.tdiv (IntKind.wrap IntKind.i64 (T_api_Config.Pages (T_assartref02_Layout.C l2) + 3)) 4)))

noncomputable def m_ref02_Layout_table (l2 : T_assartref02_Layout) : Option (Int) :=
  some ((IntKind.wrap IntKind.i64 (3 + T_api_Config.Stripes (T_assartref02_Layout.C l2))))

noncomputable def m_ref02_Layout_heads (l2 : T_assartref02_Layout) : Option (Int) :=
  ((m_ref02_Layout_table l2).bind fun y0 => ((m_ref02_Layout_Chunks l2).bind fun y1 => some ((IntKind.wrap IntKind.i64 (IntKind.wrap IntKind.i64 (y0 + y1) + IntKind.wrap IntKind.i64 (5 * T_api_Config.Pages (T_assartref02_Layout.C l2)))))))

noncomputable def m_ref02_Layout_caches (l2 : T_assartref02_Layout) : Option (Int) :=
  ((m_ref02_Layout_heads l2).bind fun y0 => some ((IntKind.wrap IntKind.i64 (y0 + 62))))

noncomputable def m_ref02_Layout_bins (l2 : T_assartref02_Layout) : Option (Int) :=
  ((m_ref02_Layout_caches l2).bind fun y0 => some ((IntKind.wrap IntKind.i64 (y0 + IntKind.wrap IntKind.i64 (IntKind.wrap IntKind.i64 (5 * T_api_Config.CPUs (T_assartref02_Layout.C l2)) * IntKind.wrap IntKind.i64 (T_api_Config.Cache (T_assartref02_Layout.C l2) + 1))))))

noncomputable def m_ref02_Layout_live (l2 : T_assartref02_Layout) : Option (Int) :=
  ((m_ref02_Layout_bins l2).bind fun y0 => some ((IntKind.wrap IntKind.i64 (y0 + IntKind.wrap IntKind.i64 (5 * IntKind.wrap IntKind.i64 (T_api_Config.Bin (T_assartref02_Layout.C l2) + 1))))))

noncomputable def m_ref02_Layout_User (l2 : T_assartref02_Layout) : Option (Int) :=
  ((m_ref02_Layout_live l2).bind fun y0 => some ((IntKind.wrap IntKind.i64 (IntKind.wrap IntKind.i64 (Int.tdiv (IntKind.wrap IntKind.i64 (IntKind.wrap IntKind.i64 (y0 + IntKind.wrap IntKind.i64 (32 * T_api_Config.Pages (T_assartref02_Layout.C l2))) + 127)) 128) * 128))))

noncomputable def m_ref02_Layout_Words (l2 : T_assartref02_Layout) : Option (Int) :=
  ((m_ref02_Layout_User l2).bind fun y0 => some ((IntKind.wrap IntKind.i64 (y0 + IntKind.wrap IntKind.i64 (32 * T_api_Config.Pages (T_assartref02_Layout.C l2))))))

noncomputable def m_ref02_at (ok : Bool) (a : Int) : Option (Int) :=
  (bif (!ok) then some ((0)) else some ((a)))

noncomputable def m_ref02_Layout_Table (l2 : T_assartref02_Layout) (k : Int) : Option (Int) :=
  (bif (Decidable.decide (k ≥ 0)) then ((m_ref02_Layout_Chunks l2).bind fun y0 => ((m_ref02_Layout_table l2).bind fun y1 => ((m_ref02_at (Decidable.decide (k < y0)) (IntKind.wrap IntKind.i64 (y1 + k))).bind fun y2 => some ((y2))))) else ((m_ref02_Layout_table l2).bind fun y3 => ((m_ref02_at Bool.false (IntKind.wrap IntKind.i64 (y3 + k))).bind fun y4 => some ((y4)))))

noncomputable def m_ref02_Layout_page (l2 : T_assartref02_Layout) (n : Int) (p : Int) : Option (Int) :=
  (bif (Decidable.decide (p ≥ 0)) then ((m_ref02_Layout_table l2).bind fun y0 => ((m_ref02_Layout_Chunks l2).bind fun y1 => ((m_ref02_at (Decidable.decide (p < T_api_Config.Pages (T_assartref02_Layout.C l2))) (IntKind.wrap IntKind.i64 (IntKind.wrap IntKind.i64 (IntKind.wrap IntKind.i64 (y0 + y1) + IntKind.wrap IntKind.i64 (n * T_api_Config.Pages (T_assartref02_Layout.C l2))) + p))).bind fun y2 => some ((y2))))) else ((m_ref02_Layout_table l2).bind fun y3 => ((m_ref02_Layout_Chunks l2).bind fun y4 => ((m_ref02_at Bool.false (IntKind.wrap IntKind.i64 (IntKind.wrap IntKind.i64 (IntKind.wrap IntKind.i64 (y3 + y4) + IntKind.wrap IntKind.i64 (n * T_api_Config.Pages (T_assartref02_Layout.C l2))) + p))).bind fun y5 => some ((y5))))))

noncomputable def m_ref02_Layout_Kind (l2 : T_assartref02_Layout) (p : Int) : Option (Int) :=
  ((m_ref02_Layout_page l2 0 p).bind fun y0 => some ((y0)))

noncomputable def m_ref02_Layout_Count (l2 : T_assartref02_Layout) (p : Int) : Option (Int) :=
  ((m_ref02_Layout_page l2 1 p).bind fun y0 => some ((y0)))

noncomputable def m_ref02_Layout_Bits (l2 : T_assartref02_Layout) (p : Int) : Option (Int) :=
  ((m_ref02_Layout_page l2 2 p).bind fun y0 => some ((y0)))

noncomputable def m_law02_within (n : Int) (low : Int) (high : Int) : Option (Int) :=
  (bif (!IntKind.wrap IntKind.u64 (IntKind.wrap IntKind.i64 (IntKind.wrap IntKind.i64 (high - low) + 1)) == 0) then some ((IntKind.wrap IntKind.i64 (low + IntKind.wrap IntKind.i64 (Int.tmod (IntKind.wrap IntKind.u64 n) (IntKind.wrap IntKind.u64 (IntKind.wrap IntKind.i64 (IntKind.wrap IntKind.i64 (high - low) + 1))))))) else none)

noncomputable def m_law02_Some (c : T_api_Config) : Option (T_api_Config) :=
  ((m_law02_within (T_api_Config.Workers c) 1 64).bind fun y0 => ((m_law02_within (T_api_Config.CPUs c) 1 8).bind fun y1 => ((m_law02_within (T_api_Config.Pages c) 1 256).bind fun y2 => ((m_law02_within (T_api_Config.Stripes c) 1 64).bind fun y3 => ((m_law02_within (T_api_Config.Tries c) 0 16).bind fun y4 => ((m_law02_within (T_api_Config.Wait c) 0 64).bind fun y5 => ((m_law02_within (T_api_Config.Clock c) 1 1099511627776).bind fun y6 => ((m_law02_within (T_api_Config.Private c) 1 8).bind fun y7 => ((m_law02_within (T_api_Config.Cache c) 0 8).bind fun y8 => ((m_law02_within (T_api_Config.Bin c) 0 16).bind fun y9 => ((m_law02_within (T_api_Config.Batch c) 1 8).bind fun y10 => some (((T_api_Config.mk (y0) (y1) (y2) (y3) (y4) (y5) (y6) (y7) (y8) (y9) (y10)))))))))))))))

noncomputable def sb_law01_Ints_Same_L1 (a : List Int) (b : List Int) (iv : Int) : Option ((Int) ⊕ (Bool)) :=
  (bif (Decidable.decide (iv < (↑(List.length a) : Int))) then (bif (inR iv (List.length a)) then (bif (inR (offs iv 0) (List.length a)) then (bif (inR iv (List.length b)) then (bif (inR (offs iv 0) (List.length b)) then (bif (List.getD a (Int.toNat (offs iv 0)) 0 != List.getD b (Int.toNat (offs iv 0)) 0) then some (.inr ((Bool.false))) else some (.inl (IntKind.wrap IntKind.i64 (iv + 1)))) else none) else none) else none) else none) else some (.inr ((Bool.true))))

noncomputable def lp_law01_Ints_Same_L1 (a : List Int) (b : List Int) (s : Int) : Option (Bool) :=
  loopO (fun s => sb_law01_Ints_Same_L1 a b s) s

noncomputable def m_law01_Ints_Same (a : List Int) (b : List Int) : Option (Bool) :=
  (bif ((↑(List.length a) : Int) != (↑(List.length b) : Int)) then some ((Bool.false)) else (lp_law01_Ints_Same_L1 a b (0)))

attribute [local irreducible] Loop ex exF contK roundK retK at_ bodyOf mkEnv
theorem ok_ref02_Layout_Chunks : SpecOK Try.prog elTT 143 (sp_ref02_Layout_Chunks m_ref02_Layout_Chunks) := by
  refine spec_of_exF (cfg := cfg_ref02_Layout_Chunks) (cfg_ok rfl rfl rfl) sig_nil (fn := Try.f143) (by kernel_rfl) (by kernel_rfl) (by kernel_rfl) ?_
  intro args H K h
  change tr_ref02_Layout_Chunks m_ref02_Layout_Chunks args H K at h
  unfold tr_ref02_Layout_Chunks at h
  replace h := aC_el h
  obtain ⟨a0, _, rfl, h⟩ := h
  replace h := aN_el h
  obtain ⟨rfl, h⟩ := h
  replace h := aAgg_el h
  obtain ⟨c0, rfl, h⟩ := h
  replace h := d_assartref02_Layout_el h
  obtain ⟨l2, rfl, h⟩ := h
  replace h := aN_el h
  obtain ⟨rfl, h⟩ := h
  refine Eq.mpr (nf_ref02_Layout_Chunks l2 K) ?_
  unfold m_ref02_Layout_Chunks at h
  revert h
  exact fun h => h

theorem ok_ref02_Layout_table : SpecOK Try.prog elTT 156 (sp_ref02_Layout_table m_ref02_Layout_table) := by
  refine spec_of_exF (cfg := cfg_ref02_Layout_table) (cfg_ok rfl rfl rfl) sig_nil (fn := Try.f156) (by kernel_rfl) (by kernel_rfl) (by kernel_rfl) ?_
  intro args H K h
  change tr_ref02_Layout_table m_ref02_Layout_table args H K at h
  unfold tr_ref02_Layout_table at h
  replace h := aC_el h
  obtain ⟨a0, _, rfl, h⟩ := h
  replace h := aN_el h
  obtain ⟨rfl, h⟩ := h
  replace h := aAgg_el h
  obtain ⟨c0, rfl, h⟩ := h
  replace h := d_assartref02_Layout_el h
  obtain ⟨l2, rfl, h⟩ := h
  replace h := aN_el h
  obtain ⟨rfl, h⟩ := h
  refine Eq.mpr (nf_ref02_Layout_table l2 K) ?_
  unfold m_ref02_Layout_table at h
  revert h
  exact fun h => h

theorem ok_ref02_Layout_heads : SpecOK Try.prog elTT 139 (sp_ref02_Layout_heads m_ref02_Layout_heads) := by
  refine spec_of_exF (cfg := (cfg_ref02_Layout_heads m_ref02_Layout_table m_ref02_Layout_Chunks)) (cfg_ok rfl rfl rfl) (sig_cons ok_ref02_Layout_table (sig_cons ok_ref02_Layout_Chunks sig_nil)) (fn := Try.f139) (by kernel_rfl) (by kernel_rfl) (by kernel_rfl) ?_
  intro args H K h
  change tr_ref02_Layout_heads m_ref02_Layout_heads args H K at h
  unfold tr_ref02_Layout_heads at h
  replace h := aC_el h
  obtain ⟨a0, _, rfl, h⟩ := h
  replace h := aN_el h
  obtain ⟨rfl, h⟩ := h
  replace h := aAgg_el h
  obtain ⟨c0, rfl, h⟩ := h
  replace h := d_assartref02_Layout_el h
  obtain ⟨l2, rfl, h⟩ := h
  replace h := aN_el h
  obtain ⟨rfl, h⟩ := h
  refine Eq.mpr (nf_ref02_Layout_heads m_ref02_Layout_table m_ref02_Layout_Chunks l2 K) ?_
  unfold m_ref02_Layout_heads at h
  revert h
  exact bind_So fun y0 => bind_So fun y1 => fun h => h

theorem ok_ref02_Layout_caches : SpecOK Try.prog elTT 163 (sp_ref02_Layout_caches m_ref02_Layout_caches) := by
  refine spec_of_exF (cfg := (cfg_ref02_Layout_caches m_ref02_Layout_heads)) (cfg_ok rfl rfl rfl) (sig_cons ok_ref02_Layout_heads sig_nil) (fn := Try.f163) (by kernel_rfl) (by kernel_rfl) (by kernel_rfl) ?_
  intro args H K h
  change tr_ref02_Layout_caches m_ref02_Layout_caches args H K at h
  unfold tr_ref02_Layout_caches at h
  replace h := aC_el h
  obtain ⟨a0, _, rfl, h⟩ := h
  replace h := aN_el h
  obtain ⟨rfl, h⟩ := h
  replace h := aAgg_el h
  obtain ⟨c0, rfl, h⟩ := h
  replace h := d_assartref02_Layout_el h
  obtain ⟨l2, rfl, h⟩ := h
  replace h := aN_el h
  obtain ⟨rfl, h⟩ := h
  refine Eq.mpr (nf_ref02_Layout_caches m_ref02_Layout_heads l2 K) ?_
  unfold m_ref02_Layout_caches at h
  revert h
  exact bind_So fun y0 => fun h => h

theorem ok_ref02_Layout_bins : SpecOK Try.prog elTT 161 (sp_ref02_Layout_bins m_ref02_Layout_bins) := by
  refine spec_of_exF (cfg := (cfg_ref02_Layout_bins m_ref02_Layout_caches)) (cfg_ok rfl rfl rfl) (sig_cons ok_ref02_Layout_caches sig_nil) (fn := Try.f161) (by kernel_rfl) (by kernel_rfl) (by kernel_rfl) ?_
  intro args H K h
  change tr_ref02_Layout_bins m_ref02_Layout_bins args H K at h
  unfold tr_ref02_Layout_bins at h
  replace h := aC_el h
  obtain ⟨a0, _, rfl, h⟩ := h
  replace h := aN_el h
  obtain ⟨rfl, h⟩ := h
  replace h := aAgg_el h
  obtain ⟨c0, rfl, h⟩ := h
  replace h := d_assartref02_Layout_el h
  obtain ⟨l2, rfl, h⟩ := h
  replace h := aN_el h
  obtain ⟨rfl, h⟩ := h
  refine Eq.mpr (nf_ref02_Layout_bins m_ref02_Layout_caches l2 K) ?_
  unfold m_ref02_Layout_bins at h
  revert h
  exact bind_So fun y0 => fun h => h

theorem ok_ref02_Layout_live : SpecOK Try.prog elTT 151 (sp_ref02_Layout_live m_ref02_Layout_live) := by
  refine spec_of_exF (cfg := (cfg_ref02_Layout_live m_ref02_Layout_bins)) (cfg_ok rfl rfl rfl) (sig_cons ok_ref02_Layout_bins sig_nil) (fn := Try.f151) (by kernel_rfl) (by kernel_rfl) (by kernel_rfl) ?_
  intro args H K h
  change tr_ref02_Layout_live m_ref02_Layout_live args H K at h
  unfold tr_ref02_Layout_live at h
  replace h := aC_el h
  obtain ⟨a0, _, rfl, h⟩ := h
  replace h := aN_el h
  obtain ⟨rfl, h⟩ := h
  replace h := aAgg_el h
  obtain ⟨c0, rfl, h⟩ := h
  replace h := d_assartref02_Layout_el h
  obtain ⟨l2, rfl, h⟩ := h
  replace h := aN_el h
  obtain ⟨rfl, h⟩ := h
  refine Eq.mpr (nf_ref02_Layout_live m_ref02_Layout_bins l2 K) ?_
  unfold m_ref02_Layout_live at h
  revert h
  exact bind_So fun y0 => fun h => h

theorem ok_ref02_Layout_User : SpecOK Try.prog elTT 120 (sp_ref02_Layout_User m_ref02_Layout_User) := by
  refine spec_of_exF (cfg := (cfg_ref02_Layout_User m_ref02_Layout_live)) (cfg_ok rfl rfl rfl) (sig_cons ok_ref02_Layout_live sig_nil) (fn := Try.f120) (by kernel_rfl) (by kernel_rfl) (by kernel_rfl) ?_
  intro args H K h
  change tr_ref02_Layout_User m_ref02_Layout_User args H K at h
  unfold tr_ref02_Layout_User at h
  replace h := aC_el h
  obtain ⟨a0, _, rfl, h⟩ := h
  replace h := aN_el h
  obtain ⟨rfl, h⟩ := h
  replace h := aAgg_el h
  obtain ⟨c0, rfl, h⟩ := h
  replace h := d_assartref02_Layout_el h
  obtain ⟨l2, rfl, h⟩ := h
  replace h := aN_el h
  obtain ⟨rfl, h⟩ := h
  refine Eq.mpr (nf_ref02_Layout_User m_ref02_Layout_live l2 K) ?_
  unfold m_ref02_Layout_User at h
  revert h
  exact bind_So fun y0 => fun h => h

theorem ok_ref02_Layout_Words : SpecOK Try.prog elTT 72 (sp_ref02_Layout_Words m_ref02_Layout_Words) := by
  refine spec_of_exF (cfg := (cfg_ref02_Layout_Words m_ref02_Layout_User)) (cfg_ok rfl rfl rfl) (sig_cons ok_ref02_Layout_User sig_nil) (fn := Try.f72) (by kernel_rfl) (by kernel_rfl) (by kernel_rfl) ?_
  intro args H K h
  change tr_ref02_Layout_Words m_ref02_Layout_Words args H K at h
  unfold tr_ref02_Layout_Words at h
  replace h := aC_el h
  obtain ⟨a0, _, rfl, h⟩ := h
  replace h := aN_el h
  obtain ⟨rfl, h⟩ := h
  replace h := aAgg_el h
  obtain ⟨c0, rfl, h⟩ := h
  replace h := d_assartref02_Layout_el h
  obtain ⟨l2, rfl, h⟩ := h
  replace h := aN_el h
  obtain ⟨rfl, h⟩ := h
  refine Eq.mpr (nf_ref02_Layout_Words m_ref02_Layout_User l2 K) ?_
  unfold m_ref02_Layout_Words at h
  revert h
  exact bind_So fun y0 => fun h => h

theorem ok_ref02_at : SpecOK Try.prog elTT 138 (sp_ref02_at m_ref02_at) := by
  refine spec_of_exF (cfg := cfg_ref02_at) (cfg_ok rfl rfl rfl) sig_nil (fn := Try.f138) (by kernel_rfl) (by kernel_rfl) (by kernel_rfl) ?_
  intro args H K h
  change tr_ref02_at m_ref02_at args H K at h
  unfold tr_ref02_at at h
  replace h := aC_el h
  obtain ⟨a0, _, rfl, h⟩ := h
  replace h := aC_el h
  obtain ⟨a1, _, rfl, h⟩ := h
  replace h := aN_el h
  obtain ⟨rfl, h⟩ := h
  replace h := aBool_el h
  obtain ⟨ok, rfl, h⟩ := h
  replace h := aInt_el h
  obtain ⟨a, rfl, h⟩ := h
  replace h := aN_el h
  obtain ⟨rfl, h⟩ := h
  refine Eq.mpr (nf_ref02_at ok a K) ?_
  unfold m_ref02_at at h
  revert h
  exact br_So (fun h => h) (fun h => h)

theorem ok_ref02_Layout_Table : SpecOK Try.prog elTT 125 (sp_ref02_Layout_Table m_ref02_Layout_Table) := by
  refine spec_of_exF (cfg := (cfg_ref02_Layout_Table m_ref02_Layout_Chunks m_ref02_Layout_table m_ref02_at)) (cfg_ok rfl rfl rfl) (sig_cons ok_ref02_Layout_Chunks (sig_cons ok_ref02_Layout_table (sig_cons ok_ref02_at sig_nil))) (fn := Try.f125) (by kernel_rfl) (by kernel_rfl) (by kernel_rfl) ?_
  intro args H K h
  change tr_ref02_Layout_Table m_ref02_Layout_Table args H K at h
  unfold tr_ref02_Layout_Table at h
  replace h := aC_el h
  obtain ⟨a0, _, rfl, h⟩ := h
  replace h := aC_el h
  obtain ⟨a1, _, rfl, h⟩ := h
  replace h := aN_el h
  obtain ⟨rfl, h⟩ := h
  replace h := aAgg_el h
  obtain ⟨c0, rfl, h⟩ := h
  replace h := d_assartref02_Layout_el h
  obtain ⟨l2, rfl, h⟩ := h
  replace h := aInt_el h
  obtain ⟨k, rfl, h⟩ := h
  replace h := aN_el h
  obtain ⟨rfl, h⟩ := h
  refine Eq.mpr (nf_ref02_Layout_Table m_ref02_Layout_Chunks m_ref02_Layout_table m_ref02_at l2 k K) ?_
  unfold m_ref02_Layout_Table at h
  revert h
  exact br_So (bind_So fun y0 => bind_So fun y1 => bind_So fun y2 => fun h => h) (bind_So fun y3 => bind_So fun y4 => fun h => h)

theorem ok_ref02_Layout_page : SpecOK Try.prog elTT 140 (sp_ref02_Layout_page m_ref02_Layout_page) := by
  refine spec_of_exF (cfg := (cfg_ref02_Layout_page m_ref02_Layout_table m_ref02_Layout_Chunks m_ref02_at)) (cfg_ok rfl rfl rfl) (sig_cons ok_ref02_Layout_table (sig_cons ok_ref02_Layout_Chunks (sig_cons ok_ref02_at sig_nil))) (fn := Try.f140) (by kernel_rfl) (by kernel_rfl) (by kernel_rfl) ?_
  intro args H K h
  change tr_ref02_Layout_page m_ref02_Layout_page args H K at h
  unfold tr_ref02_Layout_page at h
  replace h := aC_el h
  obtain ⟨a0, _, rfl, h⟩ := h
  replace h := aC_el h
  obtain ⟨a1, _, rfl, h⟩ := h
  replace h := aC_el h
  obtain ⟨a2, _, rfl, h⟩ := h
  replace h := aN_el h
  obtain ⟨rfl, h⟩ := h
  replace h := aAgg_el h
  obtain ⟨c0, rfl, h⟩ := h
  replace h := d_assartref02_Layout_el h
  obtain ⟨l2, rfl, h⟩ := h
  replace h := aInt_el h
  obtain ⟨n, rfl, h⟩ := h
  replace h := aInt_el h
  obtain ⟨p, rfl, h⟩ := h
  replace h := aN_el h
  obtain ⟨rfl, h⟩ := h
  refine Eq.mpr (nf_ref02_Layout_page m_ref02_Layout_table m_ref02_Layout_Chunks m_ref02_at l2 n p K) ?_
  unfold m_ref02_Layout_page at h
  revert h
  exact br_So (bind_So fun y0 => bind_So fun y1 => bind_So fun y2 => fun h => h) (bind_So fun y3 => bind_So fun y4 => bind_So fun y5 => fun h => h)

theorem ok_ref02_Layout_Kind : SpecOK Try.prog elTT 145 (sp_ref02_Layout_Kind m_ref02_Layout_Kind) := by
  refine spec_of_exF (cfg := (cfg_ref02_Layout_Kind m_ref02_Layout_page)) (cfg_ok rfl rfl rfl) (sig_cons ok_ref02_Layout_page sig_nil) (fn := Try.f145) (by kernel_rfl) (by kernel_rfl) (by kernel_rfl) ?_
  intro args H K h
  change tr_ref02_Layout_Kind m_ref02_Layout_Kind args H K at h
  unfold tr_ref02_Layout_Kind at h
  replace h := aC_el h
  obtain ⟨a0, _, rfl, h⟩ := h
  replace h := aC_el h
  obtain ⟨a1, _, rfl, h⟩ := h
  replace h := aN_el h
  obtain ⟨rfl, h⟩ := h
  replace h := aAgg_el h
  obtain ⟨c0, rfl, h⟩ := h
  replace h := d_assartref02_Layout_el h
  obtain ⟨l2, rfl, h⟩ := h
  replace h := aInt_el h
  obtain ⟨p, rfl, h⟩ := h
  replace h := aN_el h
  obtain ⟨rfl, h⟩ := h
  refine Eq.mpr (nf_ref02_Layout_Kind m_ref02_Layout_page l2 p K) ?_
  unfold m_ref02_Layout_Kind at h
  revert h
  exact bind_So fun y0 => fun h => h

theorem ok_ref02_Layout_Count : SpecOK Try.prog elTT 159 (sp_ref02_Layout_Count m_ref02_Layout_Count) := by
  refine spec_of_exF (cfg := (cfg_ref02_Layout_Count m_ref02_Layout_page)) (cfg_ok rfl rfl rfl) (sig_cons ok_ref02_Layout_page sig_nil) (fn := Try.f159) (by kernel_rfl) (by kernel_rfl) (by kernel_rfl) ?_
  intro args H K h
  change tr_ref02_Layout_Count m_ref02_Layout_Count args H K at h
  unfold tr_ref02_Layout_Count at h
  replace h := aC_el h
  obtain ⟨a0, _, rfl, h⟩ := h
  replace h := aC_el h
  obtain ⟨a1, _, rfl, h⟩ := h
  replace h := aN_el h
  obtain ⟨rfl, h⟩ := h
  replace h := aAgg_el h
  obtain ⟨c0, rfl, h⟩ := h
  replace h := d_assartref02_Layout_el h
  obtain ⟨l2, rfl, h⟩ := h
  replace h := aInt_el h
  obtain ⟨p, rfl, h⟩ := h
  replace h := aN_el h
  obtain ⟨rfl, h⟩ := h
  refine Eq.mpr (nf_ref02_Layout_Count m_ref02_Layout_page l2 p K) ?_
  unfold m_ref02_Layout_Count at h
  revert h
  exact bind_So fun y0 => fun h => h

theorem ok_ref02_Layout_Bits : SpecOK Try.prog elTT 160 (sp_ref02_Layout_Bits m_ref02_Layout_Bits) := by
  refine spec_of_exF (cfg := (cfg_ref02_Layout_Bits m_ref02_Layout_page)) (cfg_ok rfl rfl rfl) (sig_cons ok_ref02_Layout_page sig_nil) (fn := Try.f160) (by kernel_rfl) (by kernel_rfl) (by kernel_rfl) ?_
  intro args H K h
  change tr_ref02_Layout_Bits m_ref02_Layout_Bits args H K at h
  unfold tr_ref02_Layout_Bits at h
  replace h := aC_el h
  obtain ⟨a0, _, rfl, h⟩ := h
  replace h := aC_el h
  obtain ⟨a1, _, rfl, h⟩ := h
  replace h := aN_el h
  obtain ⟨rfl, h⟩ := h
  replace h := aAgg_el h
  obtain ⟨c0, rfl, h⟩ := h
  replace h := d_assartref02_Layout_el h
  obtain ⟨l2, rfl, h⟩ := h
  replace h := aInt_el h
  obtain ⟨p, rfl, h⟩ := h
  replace h := aN_el h
  obtain ⟨rfl, h⟩ := h
  refine Eq.mpr (nf_ref02_Layout_Bits m_ref02_Layout_page l2 p K) ?_
  unfold m_ref02_Layout_Bits at h
  revert h
  exact bind_So fun y0 => fun h => h

theorem ok_law02_within : SpecOK Try.prog elTT 150 (sp_law02_within m_law02_within) := by
  refine spec_of_exF (cfg := cfg_law02_within) (cfg_ok rfl rfl rfl) sig_nil (fn := Try.f150) (by kernel_rfl) (by kernel_rfl) (by kernel_rfl) ?_
  intro args H K h
  change tr_law02_within m_law02_within args H K at h
  unfold tr_law02_within at h
  replace h := aC_el h
  obtain ⟨a0, _, rfl, h⟩ := h
  replace h := aC_el h
  obtain ⟨a1, _, rfl, h⟩ := h
  replace h := aC_el h
  obtain ⟨a2, _, rfl, h⟩ := h
  replace h := aN_el h
  obtain ⟨rfl, h⟩ := h
  replace h := aInt_el h
  obtain ⟨n, rfl, h⟩ := h
  replace h := aInt_el h
  obtain ⟨low, rfl, h⟩ := h
  replace h := aInt_el h
  obtain ⟨high, rfl, h⟩ := h
  replace h := aN_el h
  obtain ⟨rfl, h⟩ := h
  refine Eq.mpr (nf_law02_within n low high K) ?_
  unfold m_law02_within at h
  revert h
  exact req_So (fun h => h)

theorem ok_law02_Some : SpecOK Try.prog elTT 119 (sp_law02_Some m_law02_Some) := by
  refine spec_of_exF (cfg := (cfg_law02_Some m_law02_within)) (cfg_ok rfl rfl rfl) (sig_cons ok_law02_within sig_nil) (fn := Try.f119) (by kernel_rfl) (by kernel_rfl) (by kernel_rfl) ?_
  intro args H K h
  change tr_law02_Some m_law02_Some args H K at h
  unfold tr_law02_Some at h
  replace h := aC_el h
  obtain ⟨a0, _, rfl, h⟩ := h
  replace h := aN_el h
  obtain ⟨rfl, h⟩ := h
  replace h := aAgg_el h
  obtain ⟨c0, rfl, h⟩ := h
  replace h := d_api_Config_el h
  obtain ⟨c, rfl, h⟩ := h
  replace h := aN_el h
  obtain ⟨rfl, h⟩ := h
  refine Eq.mpr (nf_law02_Some m_law02_within c K) ?_
  unfold m_law02_Some at h
  revert h
  exact bind_So fun y0 => bind_So fun y1 => bind_So fun y2 => bind_So fun y3 => bind_So fun y4 => bind_So fun y5 => bind_So fun y6 => bind_So fun y7 => bind_So fun y8 => bind_So fun y9 => bind_So fun y10 => fun h => h

theorem lpok_law01_Ints_Same_L1 (a : List Int) (b : List Int) (iv : Int) (K : V → Heap → Prop) : So (lp_law01_Ints_Same_L1 (a) (b) iv) (fun (x : Bool) => K (vb (x)) [.row 0 a true, .row 0 b true]) → Loop cfg_law01_Ints_Same (⟨26, 2⟩ : Cx) (at_ (bodyOf Try.f20) [1, 1, 0, 1, 0, 0]) (mkEnv [(0, .row 0), (1, .row 1), (5, vi (iv))]) [.row 0 (a : List (Int)) Bool.true, .row 0 (b : List (Int)) Bool.true] (contK cfg_law01_Ints_Same (⟨26, 2⟩ : Cx) (bodyOf Try.f20) [1, 1, 0, 1, 0] (retK cfg_law01_Ints_Same Try.f20 2 K)) := by
  refine loopK_So (fun (s_ : Int) => (mkEnv [(0, .row 0), (1, .row 1), (5, vi ((s_)))])) (fun (s_ : Int) => [.row 0 (a : List (Int)) Bool.true, .row 0 (b : List (Int)) Bool.true]) (fun (x : Bool) => K (vb (x)) [.row 0 a true, .row 0 b true]) ?_ iv
  intro s_ J1 h
  clear iv
  revert h; revert s_; intro iv h
  refine Eq.mpr (nf_law01_Ints_Same_L1 a b iv K J1) ?_
  have h : So (sb_law01_Ints_Same_L1 (a) (b) iv) _ := h
  unfold sb_law01_Ints_Same_L1 at h
  revert h
  exact br_So (req_So (req_So (req_So (req_So (br_So (fun h => h) (fun h => h)))))) (fun h => h)

theorem ok_law01_Ints_Same : SpecOK Try.prog elTT 20 (sp_law01_Ints_Same m_law01_Ints_Same) := by
  refine spec_of_exF (cfg := cfg_law01_Ints_Same) (cfg_ok rfl rfl rfl) sig_nil (fn := Try.f20) (by kernel_rfl) (by kernel_rfl) (by kernel_rfl) ?_
  intro args H K h
  change tr_law01_Ints_Same m_law01_Ints_Same args H K at h
  unfold tr_law01_Ints_Same at h
  replace h := aC_el h
  obtain ⟨a0, _, rfl, h⟩ := h
  replace h := aC_el h
  obtain ⟨a1, _, rfl, h⟩ := h
  replace h := aN_el h
  obtain ⟨rfl, h⟩ := h
  replace h := aRow_el h
  obtain ⟨rfl, h⟩ := h
  replace h := aRow_el h
  obtain ⟨rfl, h⟩ := h
  replace h := aC_el h
  obtain ⟨b0, _, rfl, h⟩ := h
  replace h := aC_el h
  obtain ⟨b1, _, rfl, h⟩ := h
  replace h := aN_el h
  obtain ⟨rfl, h⟩ := h
  replace h := bRow_el h
  obtain ⟨(a : List Int), rfl, h⟩ := h
  replace h := bRow_el h
  obtain ⟨(b : List Int), rfl, h⟩ := h
  refine Eq.mpr (nf_law01_Ints_Same a b K) ?_
  unfold m_law01_Ints_Same at h
  revert h
  exact br_So (fun h => h) (lpok_law01_Ints_Same_L1 a b (0) K)

end Go.Rx
end

section
/- The document's layouts, plainly: they are the program's. -/
namespace Go.Rx
open Go.Proofs

theorem wrap_u64' (x : Int) : IntKind.wrap IntKind.u64 x = x % 18446744073709551616 := rfl
theorem within_eq {n low high : Int} (h : 0 ≤ low ∧ low ≤ high ∧ high ≤ 1099511627776) : ∃ x, m_law02_within n low high = some x ∧ low ≤ x ∧ x ≤ high := by
  unfold m_law02_within
  have hu : ∀ x : Int, 0 ≤ x → x < 18446744073709551616 → IntKind.wrap IntKind.u64 x = x := fun x h1 h2 => by
    rw [wrap_u64']; omega
  have hn : ∀ x : Int, 0 ≤ IntKind.wrap IntKind.u64 x := fun x => by
    rw [wrap_u64']; exact Int.emod_nonneg _ (by decide)
  rw [wrap_id (x := high - low) (by omega) (by omega), wrap_id (x := high - low + 1) (by omega) (by omega), hu (high - low + 1) (by omega) (by omega)]
  have e : (!(high - low + 1 == 0)) = true := by simp; omega
  rw [e, cond_true]
  have h0 := hn n
  generalize IntKind.wrap IntKind.u64 n = m at *
  rw [Int.tmod_eq_emod_of_nonneg h0]
  have h1 := Int.emod_nonneg m (b := high - low + 1) (by omega)
  have h2 := Int.emod_lt_of_pos m (b := high - low + 1) (by omega)
  generalize m % (high - low + 1) = k at *
  refine ⟨_, rfl, ?_⟩
  rw [wrap_id (x := k) (by omega) (by omega), wrap_id (by omega) (by omega)]
  omega

theorem Some_eq (c : T_api_Config) : ∃ d, m_law02_Some c = some d ∧ RightC d := by
  unfold m_law02_Some
  obtain ⟨a0, e0, h0⟩ := within_eq (n := c.Workers) (low := 1) (high := 64) (by omega)
  obtain ⟨a1, e1, h1⟩ := within_eq (n := c.CPUs) (low := 1) (high := 8) (by omega)
  obtain ⟨a2, e2, h2⟩ := within_eq (n := c.Pages) (low := 1) (high := 256) (by omega)
  obtain ⟨a3, e3, h3⟩ := within_eq (n := c.Stripes) (low := 1) (high := 64) (by omega)
  obtain ⟨a4, e4, h4⟩ := within_eq (n := c.Tries) (low := 0) (high := 16) (by omega)
  obtain ⟨a5, e5, h5⟩ := within_eq (n := c.Wait) (low := 0) (high := 64) (by omega)
  obtain ⟨a6, e6, h6⟩ := within_eq (n := c.Clock) (low := 1) (high := 1099511627776) (by omega)
  obtain ⟨a7, e7, h7⟩ := within_eq (n := c.Private) (low := 1) (high := 8) (by omega)
  obtain ⟨a8, e8, h8⟩ := within_eq (n := c.Cache) (low := 0) (high := 8) (by omega)
  obtain ⟨a9, e9, h9⟩ := within_eq (n := c.Bin) (low := 0) (high := 16) (by omega)
  obtain ⟨a10, e10, h10⟩ := within_eq (n := c.Batch) (low := 1) (high := 8) (by omega)
  rw [e0, e1, e2, e3, e4, e5, e6, e7, e8, e9, e10]
  exact ⟨_, rfl, h0, h1, h2, h3, h4, h5, h6, h7, h8, h9, h10⟩

section
variable {c : T_api_Config}
theorem rChunks_eq (h : RightC c) : m_ref02_Layout_Chunks ⟨c⟩ = some ((c.Pages + 3) / 4) := by
  have := h.pages
  unfold m_ref02_Layout_Chunks
  simp only
  rw [wrap_id (x := c.Pages + 3) (by omega) (by omega), Int.tdiv_eq_ediv_of_nonneg (by omega), wrap_id (by omega) (by omega)]
theorem rtable_eq (h : RightC c) : m_ref02_Layout_table ⟨c⟩ = some (layC c).at_0 := by
  have := h.stripes
  unfold m_ref02_Layout_table
  simp only [layC]
  rw [wrap_id (by omega) (by omega)]
theorem rheads_eq (h : RightC c) : m_ref02_Layout_heads ⟨c⟩ = some (layC c).at_6 := by
  have := h.stripes; have := h.pages
  unfold m_ref02_Layout_heads
  rw [rtable_eq h, rChunks_eq h]
  simp only [layC, Option.bind_some]
  simp (disch := omega) only [wrap_id]
theorem rcaches_eq (h : RightC c) : m_ref02_Layout_caches ⟨c⟩ = some (layC c).at_7 := by
  have := h.stripes; have := h.pages
  unfold m_ref02_Layout_caches
  rw [rheads_eq h]
  simp only [layC, Option.bind_some]
  simp (disch := omega) only [wrap_id]
theorem rbins_eq (h : RightC c) : m_ref02_Layout_bins ⟨c⟩ = some (layC c).at_8 := by
  have := h.stripes; have := h.pages; have := h.cpus; have := h.cache
  have hp := prodC h
  unfold m_ref02_Layout_bins
  rw [rcaches_eq h]
  simp only [layC, Option.bind_some]
  have e : 5 * c.CPUs = c.CPUs * 5 := Int.mul_comm _ _
  rw [wrap_id (x := 5 * c.CPUs) (by omega) (by omega), wrap_id (x := c.Cache + 1) (by omega) (by omega), e]
  generalize c.CPUs * 5 * (c.Cache + 1) = q at *
  simp (disch := omega) only [wrap_id]
theorem rlive_eq (h : RightC c) : m_ref02_Layout_live ⟨c⟩ = some (layC c).at_9 := by
  have := h.stripes; have := h.pages; have := h.bin
  have hp := prodC h
  unfold m_ref02_Layout_live
  rw [rbins_eq h]
  simp only [layC, Option.bind_some]
  generalize c.CPUs * 5 * (c.Cache + 1) = q at *
  simp (disch := omega) only [wrap_id]
theorem rUser_eq (h : RightC c) : m_ref02_Layout_User ⟨c⟩ = some (layC c).at_10 := by
  have := h.stripes; have := h.pages; have := h.bin
  have hp := prodC h
  unfold m_ref02_Layout_User
  rw [rlive_eq h]
  simp only [layC, Option.bind_some]
  generalize c.CPUs * 5 * (c.Cache + 1) = q at *
  simp (disch := omega) only [wrap_id, Int.tdiv_eq_ediv_of_nonneg, Int.mul_comm 32]
theorem rWords_eq (h : RightC c) : m_ref02_Layout_Words ⟨c⟩ = some (layC c).at_11 := by
  have := h.stripes; have := h.pages; have := h.bin
  have hb := (layC_ok h).big
  unfold m_ref02_Layout_Words
  rw [rUser_eq h]
  have e : (layC c).at_11 = (layC c).at_10 + c.Pages * 32 := rfl
  rw [e]
  generalize (layC c).at_10 = q at *
  simp only [Option.bind_some]
  simp (disch := omega) only [wrap_id, Int.mul_comm 32]
theorem rat_eq (ok : Bool) (a : Int) : m_ref02_at ok a = some (if ok = true then a else 0) := by
  unfold m_ref02_at; cases ok <;> rfl
theorem rTable_eq (h : RightC c) (k : Int) : m_ref02_Layout_Table ⟨c⟩ k = some (lTab (layC c) k) := by
  have := h.stripes; have := h.pages
  unfold m_ref02_Layout_Table
  rw [rtable_eq h, rChunks_eq h]
  simp only [Option.bind_some, rat_eq, lTab]
  have e0 : (layC c).at_0 = 3 + c.Stripes := rfl
  have e1 : (layC c).c = c := rfl
  rw [e0, e1]
  by_cases a : 0 ≤ k
  · rw [decide_eq_true (show k ≥ 0 from a), cond_true]
    by_cases b : k < (c.Pages + 3) / 4
    · rw [decide_eq_true b, if_pos rfl, if_pos ⟨a, b⟩, wrap_id (by omega) (by omega)]
    · rw [decide_eq_false b, if_neg (by decide), if_neg (by omega)]
  · rw [decide_eq_false (show ¬ k ≥ 0 from a), cond_false, if_neg (by decide), if_neg (by omega)]
theorem rpage_eq (h : RightC c) {n p : Int} (hn : 0 ≤ n ∧ n ≤ 4) : m_ref02_Layout_page ⟨c⟩ n p = some (lPg (layC c) ((layC c).at_1 + n * c.Pages) p) := by
  have := h.stripes; have hpg := h.pages
  unfold m_ref02_Layout_page
  rw [rtable_eq h, rChunks_eq h]
  simp only [Option.bind_some, rat_eq, lPg]
  have e0 : (layC c).at_0 = 3 + c.Stripes := rfl
  have e2 : (layC c).at_1 = 3 + c.Stripes + (c.Pages + 3) / 4 := rfl
  have e1 : (layC c).c = c := rfl
  rw [e0, e1, e2]
  have hm := mul_b (x := n) (y := c.Pages) (a := 4) (b := 256) (by omega) (by omega)
  by_cases a : 0 ≤ p
  · rw [decide_eq_true (show p ≥ 0 from a), cond_true]
    by_cases b : p < c.Pages
    · rw [decide_eq_true b, if_pos rfl, if_pos ⟨a, b⟩]
      generalize n * c.Pages = q at *
      simp (disch := omega) only [wrap_id]
    · rw [decide_eq_false b, if_neg (by decide), if_neg (by omega)]
  · rw [decide_eq_false (show ¬ p ≥ 0 from a), cond_false, if_neg (by decide), if_neg (by omega)]
theorem rKind_eq (h : RightC c) (p : Int) : m_ref02_Layout_Kind ⟨c⟩ p = some (lPg (layC c) (layC c).at_1 p) := by
  unfold m_ref02_Layout_Kind; rw [rpage_eq h (by omega), Option.bind_some]; simp
theorem rCount_eq (h : RightC c) (p : Int) : m_ref02_Layout_Count ⟨c⟩ p = some (lPg (layC c) (layC c).at_2 p) := by
  unfold m_ref02_Layout_Count; rw [rpage_eq h (by omega), Option.bind_some]; simp [layC]
theorem rBits_eq (h : RightC c) (p : Int) : m_ref02_Layout_Bits ⟨c⟩ p = some (lPg (layC c) (layC c).at_3 p) := by
  unfold m_ref02_Layout_Bits; rw [rpage_eq h (by omega), Option.bind_some]; simp [layC]
end

/-- Are words the same? -/
theorem Same_eq {a b : List Int} (ha : a.length ≤ 4611686018427387904) : m_law01_Ints_Same a b = some (decide (a = b)) := by
  unfold m_law01_Ints_Same
  by_cases hl : a.length = b.length
  · have e : (((a.length : Int)) != (b.length : Int)) = false := by simp [hl]
    rw [e, cond_false]
    have key : loopO (fun s => sb_law01_Ints_Same_L1 a b s) 0 = some (decide (a.drop 0 = b.drop 0)) := by
      obtain ⟨r, h1, h2⟩ := loopO_ind (step := fun s => sb_law01_Ints_Same_L1 a b s) (I := fun s => ∃ n : Nat, s = n ∧ n ≤ a.length ∧ (decide (a = b)) = decide (a.drop n = b.drop n))
        (μ := fun s => a.length - s.toNat) (fun r => r = decide (a = b)) (by
          rintro _ ⟨n, rfl, hn, hd⟩
          simp only [sb_law01_Ints_Same_L1]
          by_cases c : n < a.length
          · have c2 : n < b.length := by omega
            have ho : offs (n : Int) 0 = (n : Int) := rfl
            rw [decide_eq_true (show (n : Int) < (a.length : Int) by omega), cond_true, inR_nat c, cond_true, ho, inR_nat c, cond_true, inR_nat c2, cond_true, cond_true, Int.toNat_natCast]
            have g1 : a.getD n 0 = a[n] := by simp [List.getD, c]
            have g2 : b.getD n 0 = b[n] := by simp [List.getD, c2]
            rw [g1, g2]
            have hd' : (a.drop n = b.drop n) ↔ (a[n] = b[n] ∧ a.drop (n + 1) = b.drop (n + 1)) := by
              rw [List.drop_eq_getElem_cons c, List.drop_eq_getElem_cons c2, List.cons.injEq]
            by_cases e : a[n] = b[n]
            · have e2 : (a[n] != b[n]) = false := by simp [e]
              rw [e2, cond_false, wrap_succ (by omega)]
              refine .inl ⟨_, rfl, ⟨n + 1, rfl, c, ?_⟩, by omega⟩
              rw [hd]; simp only [hd', e, true_and]
            · have e2 : (a[n] != b[n]) = true := by simp [e]
              rw [e2, cond_true]
              refine .inr ⟨_, rfl, ?_⟩
              rw [hd]; simp only [hd', e, false_and, decide_false]
          · rw [decide_eq_false (by omega), cond_false]
            refine .inr ⟨_, rfl, ?_⟩
            rw [hd, List.drop_eq_nil_of_le (by omega), List.drop_eq_nil_of_le (by omega)]; simp) 0 ⟨0, rfl, by omega, rfl⟩
      rw [h1, h2]; rfl
    exact key
  · have e : (((a.length : Int)) != (b.length : Int)) = true := by simp; omega
    rw [e, cond_true, decide_eq_false (fun h => hl (by rw [h]))]
end Go.Rx
end

section
/- Contracts. -/
namespace Go.Rx
open Go.Proofs
set_option maxRecDepth 100000
set_option maxHeartbeats 4000000
/-! assart/assartref08.Of -/
def tr_ref08_Of (m_ : Int → Option (Int)) (args : List V) (H : Heap) (K : V → Heap → Prop) : Prop :=
  aC args fun a0 r => aN r <| aInt a0 fun p => aN H <| So (m_ p) fun x => K (vi (x)) []
def sp_ref08_Of (m_ : Int → Option (Int)) : Spec := ⟨tr_ref08_Of m_, (true : Bool)⟩

/-! assart/assartref08.there -/
def tr_ref08_there (m_ : T_assartref02_Layout → Int → Option (Bool)) (args : List V) (H : Heap) (K : V → Heap → Prop) : Prop :=
  aC args fun a0 r => aC r fun a1 r => aN r <| aAgg a0 fun c0 => d_assartref02_Layout c0 fun l2 => aInt a1 fun k => aN H <| So (m_ l2 k) fun x => K (vb (x)) []
def sp_ref08_there (m_ : T_assartref02_Layout → Int → Option (Bool)) : Spec := ⟨tr_ref08_there m_, (true : Bool)⟩

/-! assart/assartref08.Pages -/
def tr_ref08_Pages (m_ : T_assartref02_Layout → Int → Option (Int × Int)) (args : List V) (H : Heap) (K : V → Heap → Prop) : Prop :=
  aC args fun a0 r => aC r fun a1 r => aN r <| aAgg a0 fun c0 => d_assartref02_Layout c0 fun l2 => aInt a1 fun k => aN H <| So (m_ l2 k) fun x => K (.tup [vi (x.1), vi (x.2)]) []
def sp_ref08_Pages (m_ : T_assartref02_Layout → Int → Option (Int × Int)) : Spec := ⟨tr_ref08_Pages m_, (true : Bool)⟩

/-! assart/assartref08.Mapped -/
def tr_ref08_Mapped (m_ : T_assartref02_Layout → Int → (List Int) → Option (Bool)) (args : List V) (H : Heap) (K : V → Heap → Prop) : Prop :=
  aC args fun a0 r => aC r fun a1 r => aC r fun a2 r => aN r <| aAgg a0 fun c0 => d_assartref02_Layout c0 fun l2 => aRow 0 a1 <| aInt a2 fun k => aC H fun b0 r => aN r <| bRow 0 true b0 fun (w : List Int) => So (m_ l2 k w) fun x => K (vb (x)) [.row 0 w true]
def sp_ref08_Mapped (m_ : T_assartref02_Layout → Int → (List Int) → Option (Bool)) : Spec := ⟨tr_ref08_Mapped m_, (true : Bool)⟩

/-! assart/assartref08.Count -/
def tr_ref08_Count (m_ : T_assartref02_Layout → (List Int) → Option (Int)) (args : List V) (H : Heap) (K : V → Heap → Prop) : Prop :=
  aC args fun a0 r => aC r fun a1 r => aN r <| aAgg a0 fun c0 => d_assartref02_Layout c0 fun l2 => aRow 0 a1 <| aC H fun b0 r => aN r <| bRow 0 true b0 fun (w : List Int) => So (m_ l2 w) fun x => K (vi (x)) [.row 0 w true]
def sp_ref08_Count (m_ : T_assartref02_Layout → (List Int) → Option (Int)) : Spec := ⟨tr_ref08_Count m_, (true : Bool)⟩

/-! assart/assartref08.Turn -/
def tr_ref08_Turn (m_ : T_assartref02_Layout → Int → Int → (List Int) → Option (Bool × (List Int))) (args : List V) (H : Heap) (K : V → Heap → Prop) : Prop :=
  aC args fun a0 r => aC r fun a1 r => aC r fun a2 r => aC r fun a3 r => aN r <| aAgg a0 fun c0 => d_assartref02_Layout c0 fun l2 => aRow 0 a1 <| aInt a2 fun k => aInt a3 fun xv => aC H fun b0 r => aN r <| bRow 0 false b0 fun (w : List Int) => So (m_ l2 k xv w) fun x => K (vb (x.1)) [.row 0 (x.2) false]
def sp_ref08_Turn (m_ : T_assartref02_Layout → Int → Int → (List Int) → Option (Bool × (List Int))) : Spec := ⟨tr_ref08_Turn m_, (⟨true, fun i => Nat.beq i 0⟩ : RO)⟩

/-! assart/assartref08.all -/
def tr_ref08_all (m_ : T_assartref02_Layout → Int → Int → Option (Bool)) (args : List V) (H : Heap) (K : V → Heap → Prop) : Prop :=
  aC args fun a0 r => aC r fun a1 r => aC r fun a2 r => aN r <| aAgg a0 fun c0 => d_assartref02_Layout c0 fun l2 => aInt a1 fun p => aInt a2 fun n => aN H <| So (m_ l2 p n) fun x => K (vb (x)) []
def sp_ref08_all (m_ : T_assartref02_Layout → Int → Int → Option (Bool)) : Spec := ⟨tr_ref08_all m_, (true : Bool)⟩

/-! assart/assartref08.Covers -/
/-! assart/assartref08.Ensure -/
def tr_ref08_Ensure (m_ : T_assartref02_Layout → Int → Int → (List Int) → Option (Int × (List Int))) (args : List V) (H : Heap) (K : V → Heap → Prop) : Prop :=
  aC args fun a0 r => aC r fun a1 r => aC r fun a2 r => aC r fun a3 r => aN r <| aAgg a0 fun c0 => d_assartref02_Layout c0 fun l2 => aRow 0 a1 <| aInt a2 fun p => aInt a3 fun n => aC H fun b0 r => aN r <| bRow 0 false b0 fun (w : List Int) => So (m_ l2 p n w) fun x => K (vi (x.1)) [.row 0 (x.2) false]
def sp_ref08_Ensure (m_ : T_assartref02_Layout → Int → Int → (List Int) → Option (Int × (List Int))) : Spec := ⟨tr_ref08_Ensure m_, (⟨true, fun i => Nat.beq i 0⟩ : RO)⟩

noncomputable def cfg_ref08_Of  : Cfg := { cfgB with
  sigs := sigN }

noncomputable def cfg_ref08_there (m_ref02_Layout_Chunks : T_assartref02_Layout → Option (Int)) : Cfg := { cfgB with
  sigs := (sigC 143 (sp_ref02_Layout_Chunks m_ref02_Layout_Chunks) sigN) }

noncomputable def cfg_ref08_Pages (m_ref08_there : T_assartref02_Layout → Int → Option (Bool)) : Cfg := { cfgB with
  sigs := (sigC 124 (sp_ref08_there m_ref08_there) sigN),
  plan := fun r => match r with | 3 => some (List.range 11, 0) | _ => none }

noncomputable def cfg_ref08_Mapped (m_ref08_there : T_assartref02_Layout → Int → Option (Bool)) (m_ref02_Layout_Table : T_assartref02_Layout → Int → Option (Int)) : Cfg := { cfgB with
  sigs := (sigC 124 (sp_ref08_there m_ref08_there) (sigC 125 (sp_ref02_Layout_Table m_ref02_Layout_Table) sigN)) }

noncomputable def cfg_ref08_Count (m_ref08_Of : Int → Option (Int)) (m_ref08_Mapped : T_assartref02_Layout → Int → (List Int) → Option (Bool)) : Cfg := { cfgB with
  sigs := (sigC 127 (sp_ref08_Of m_ref08_Of) (sigC 76 (sp_ref08_Mapped m_ref08_Mapped) sigN)),
  keep := fun r => match r with | 3 => some [(1, some 0), (2, none), (5, none), (6, none)] | _ => none,
  plan := fun r => match r with | 5 => some (List.range 5, 0) | _ => none }

noncomputable def cfg_ref08_Turn (m_ref08_there : T_assartref02_Layout → Int → Option (Bool)) (m_ref08_Mapped : T_assartref02_Layout → Int → (List Int) → Option (Bool)) (m_ref02_Layout_Table : T_assartref02_Layout → Int → Option (Int)) : Cfg := { cfgB with
  sigs := (sigC 124 (sp_ref08_there m_ref08_there) (sigC 76 (sp_ref08_Mapped m_ref08_Mapped) (sigC 125 (sp_ref02_Layout_Table m_ref02_Layout_Table) sigN))) }

noncomputable def cfg_ref08_all  : Cfg := { cfgB with
  sigs := sigN }

noncomputable def cfg_ref08_Ensure (m_ref08_all : T_assartref02_Layout → Int → Int → Option (Bool)) (m_ref08_Count : T_assartref02_Layout → (List Int) → Option (Int)) (m_ref08_Of : Int → Option (Int)) (m_ref08_Turn : T_assartref02_Layout → Int → Int → (List Int) → Option (Bool × (List Int))) : Cfg := { cfgB with
  sigs := (sigC 126 (sp_ref08_all m_ref08_all) (sigC 79 (sp_ref08_Count m_ref08_Count) (sigC 127 (sp_ref08_Of m_ref08_Of) (sigC 75 (sp_ref08_Turn m_ref08_Turn) sigN)))),
  keep := fun r => match r with | 5 => some [(1, some 0), (2, none), (3, none), (4, none), (9, none), (10, none)] | _ => none,
  plan := fun r => match r with | 7 => some (List.range 5, 1) | _ => none }

theorem nf_ref08_Of (p : Int) (K : V → Heap → Prop) : (exF cfg_ref08_Of Try.f127 [vi p] [] K) = (
    br (Decidable.decide (p < 0)) (K (vi (-1)) []) (K (vi (IntKind.wrap IntKind.i64 (Int.tdiv p 4))) [])) := by
  kernel_rfl

theorem nf_ref08_there (m_ref02_Layout_Chunks : T_assartref02_Layout → Option (Int)) (l2 : T_assartref02_Layout) (k : Int) (K : V → Heap → Prop) : (exF (cfg_ref08_there m_ref02_Layout_Chunks) Try.f124 [.agg (e_assartref02_Layout l2), vi k] [] K) = (
    br (Decidable.decide (k ≥ 0)) (So (m_ref02_Layout_Chunks l2) (fun (y0 : Int) => (K (vb (Decidable.decide (k < y0))) []))) (K (vb (Bool.false)) [])) := by
  kernel_rfl

theorem nf_ref08_Pages (m_ref08_there : T_assartref02_Layout → Int → Option (Bool)) (l2 : T_assartref02_Layout) (k : Int) (K : V → Heap → Prop) : (exF (cfg_ref08_Pages m_ref08_there) Try.f144 [.agg (e_assartref02_Layout l2), vi k] [] K) = (
    So (m_ref08_there l2 k) (fun (y0 : Bool) => (br (!y0) (K (.tup [vi (0), vi (0)]) []) (K (.tup [vi (IntKind.wrap IntKind.i64 (4 * k)), vi (if IntKind.wrap IntKind.i64 (T_api_Config.Pages (T_assartref02_Layout.C l2) - IntKind.wrap IntKind.i64 ((4 : Int) * k)) < (4 : Int) then IntKind.wrap IntKind.i64 (T_api_Config.Pages (T_assartref02_Layout.C l2) - IntKind.wrap IntKind.i64 ((4 : Int) * k)) else (4 : Int))]) [])))) := by
  kernel_rfl

theorem nf_ref08_Mapped (m_ref08_there : T_assartref02_Layout → Int → Option (Bool)) (m_ref02_Layout_Table : T_assartref02_Layout → Int → Option (Int)) (l2 : T_assartref02_Layout) (k : Int) (w : List Int) (K : V → Heap → Prop) : (exF (cfg_ref08_Mapped m_ref08_there m_ref02_Layout_Table) Try.f76 [.agg (e_assartref02_Layout l2), .row 0, vi k] [.row 0 w true] K) = (
    So (m_ref08_there l2 k) (fun (y0 : Bool) => (br (y0) (So (m_ref02_Layout_Table l2 k) (fun (y1 : Int) => (Req (inR y1 (List.length w)) (Req (inR (offs y1 0) (List.length w)) (K (vb (List.getD w (Int.toNat (offs y1 0)) 0 == 1)) [.row 0 (w : List (Int)) Bool.true]))))) (K (vb (Bool.false)) [.row 0 (w : List (Int)) Bool.true])))) := by
  kernel_rfl

theorem nf_ref08_Count_L1 (m_ref08_Of : Int → Option (Int)) (m_ref08_Mapped : T_assartref02_Layout → Int → (List Int) → Option (Bool)) (l2 : T_assartref02_Layout) (w : List Int) (n : Int) (p : Int) (K : V → Heap → Prop) (J1 : Env → Heap → Prop) : (ex (cfg_ref08_Count m_ref08_Of m_ref08_Mapped) (⟨22, 1⟩ : Cx) (at_ (bodyOf Try.f79) [1, 1, 0, 1, 0, 0]) (mkEnv [(1, .row 0), (2, .ptr 1 0), (5, vi (n)), (6, vi (p))]) [.row 0 (w : List (Int)) Bool.true, .cells 30 (e_api_Config (Go.Rx.T_assartref02_Layout.C l2))] (roundK (cfg_ref08_Count m_ref08_Of m_ref08_Mapped) (⟨22, 1⟩ : Cx) (at_ (bodyOf Try.f79) [1, 1, 0, 1, 0, 0]) (contK (cfg_ref08_Count m_ref08_Of m_ref08_Mapped) (⟨22, 1⟩ : Cx) (bodyOf Try.f79) [1, 1, 0, 1, 0] (retK (cfg_ref08_Count m_ref08_Of m_ref08_Mapped) Try.f79 1 K)) J1)) = (
    br (Decidable.decide (p < T_api_Config.Pages (T_assartref02_Layout.C l2))) (So (m_ref08_Of p) (fun (y0 : Int) => (So (m_ref08_Mapped l2 y0 w) (fun (y1 : Bool) => (br (y1) (J1 (mkEnv [(1, .row 0), (2, .ptr 1 0), (5, vi (IntKind.wrap IntKind.i64 (n + 1))), (6, vi (IntKind.wrap IntKind.i64 (p + 1)))]) [.row 0 (w : List (Int)) Bool.true, .cells 30 (e_api_Config (T_assartref02_Layout.C l2))]) (J1 (mkEnv [(1, .row 0), (2, .ptr 1 0), (5, vi (n)), (6, vi (IntKind.wrap IntKind.i64 (p + 1)))]) [.row 0 (w : List (Int)) Bool.true, .cells 30 (e_api_Config (T_assartref02_Layout.C l2))])))))) (K (vi (n)) [.row 0 (w : List (Int)) Bool.true])) := by
  kernel_rfl

theorem nf_ref08_Count (m_ref08_Of : Int → Option (Int)) (m_ref08_Mapped : T_assartref02_Layout → Int → (List Int) → Option (Bool)) (l2 : T_assartref02_Layout) (w : List Int) (K : V → Heap → Prop) : (exF (cfg_ref08_Count m_ref08_Of m_ref08_Mapped) Try.f79 [.agg (e_assartref02_Layout l2), .row 0] [.row 0 w true] K) = (
    Loop (cfg_ref08_Count m_ref08_Of m_ref08_Mapped) (⟨22, 1⟩ : Cx) (at_ (bodyOf Try.f79) [1, 1, 0, 1, 0, 0]) (mkEnv [(1, .row 0), (2, .ptr 1 0), (5, vi (0)), (6, vi (0))]) [.row 0 (w : List (Int)) Bool.true, .cells 30 (e_api_Config (T_assartref02_Layout.C l2))] (contK (cfg_ref08_Count m_ref08_Of m_ref08_Mapped) (⟨22, 1⟩ : Cx) (bodyOf Try.f79) [1, 1, 0, 1, 0] (retK (cfg_ref08_Count m_ref08_Of m_ref08_Mapped) Try.f79 1 K))) := by
  kernel_rfl

theorem nf_ref08_Turn (m_ref08_there : T_assartref02_Layout → Int → Option (Bool)) (m_ref08_Mapped : T_assartref02_Layout → Int → (List Int) → Option (Bool)) (m_ref02_Layout_Table : T_assartref02_Layout → Int → Option (Int)) (l2 : T_assartref02_Layout) (k : Int) (xv : Int) (w : List Int) (K : V → Heap → Prop) : (exF (cfg_ref08_Turn m_ref08_there m_ref08_Mapped m_ref02_Layout_Table) Try.f75 [.agg (e_assartref02_Layout l2), .row 0, vi k, vi xv] [.row 0 w false] K) = (
    So (m_ref08_there l2 k) (fun (y0 : Bool) => (br (!y0) (K (vb (Bool.false)) [.row 0 (w : List (Int)) Bool.false]) (So (m_ref08_Mapped l2 k w) (fun (y1 : Bool) => (br (y1 == (xv == 1)) (K (vb (Bool.false)) [.row 0 (w : List (Int)) Bool.false]) (So (m_ref02_Layout_Table l2 k) (fun (y2 : Int) => (Req (inR y2 (List.length w)) (Req (inR (offs y2 0) (List.length w)) (K (vb (Bool.true)) [.row 0 (List.set w (Int.toNat (offs y2 0)) xv : List (Int)) Bool.false]))))))))))) := by
  kernel_rfl

theorem nf_ref08_all (l2 : T_assartref02_Layout) (p : Int) (n : Int) (K : V → Heap → Prop) : (exF cfg_ref08_all Try.f126 [.agg (e_assartref02_Layout l2), vi p, vi n] [] K) = (
    br (Decidable.decide (n ≥ 1)) (br (Decidable.decide (p ≥ 0)) (br (Decidable.decide (p < T_api_Config.Pages (T_assartref02_Layout.C l2))) (K (vb (Decidable.decide (n ≤ IntKind.wrap IntKind.i64 (T_api_Config.Pages (T_assartref02_Layout.C l2) - p)))) []) (K (vb (Bool.false)) [])) (K (vb (Bool.false)) [])) (K (vb (Bool.false)) [])) := by
  kernel_rfl

theorem nf_ref08_Ensure_L1 (m_ref08_all : T_assartref02_Layout → Int → Int → Option (Bool)) (m_ref08_Count : T_assartref02_Layout → (List Int) → Option (Int)) (m_ref08_Of : Int → Option (Int)) (m_ref08_Turn : T_assartref02_Layout → Int → Int → (List Int) → Option (Bool × (List Int))) (l2 : T_assartref02_Layout) (p : Int) (n : Int) (w : List Int) (was : Int) (iv : Int) (w2 : List Int) (K : V → Heap → Prop) (J1 : Env → Heap → Prop) : (ex (cfg_ref08_Ensure m_ref08_all m_ref08_Count m_ref08_Of m_ref08_Turn) (⟨37, 1⟩ : Cx) (at_ (bodyOf Try.f78) [1, 1, 1, 0, 1, 0, 0]) (mkEnv [(1, .row 0), (2, vi (p)), (3, vi (n)), (4, .ptr 1 0), (9, vi (was)), (10, vi (iv))]) [.row 0 (w2 : List (Int)) Bool.false, .cells 30 (e_api_Config (Go.Rx.T_assartref02_Layout.C l2))] (roundK (cfg_ref08_Ensure m_ref08_all m_ref08_Count m_ref08_Of m_ref08_Turn) (⟨37, 1⟩ : Cx) (at_ (bodyOf Try.f78) [1, 1, 1, 0, 1, 0, 0]) (contK (cfg_ref08_Ensure m_ref08_all m_ref08_Count m_ref08_Of m_ref08_Turn) (⟨37, 1⟩ : Cx) (bodyOf Try.f78) [1, 1, 1, 0, 1, 0] (retK (cfg_ref08_Ensure m_ref08_all m_ref08_Count m_ref08_Of m_ref08_Turn) Try.f78 1 K)) J1)) = (
    br (Decidable.decide (iv < IntKind.wrap IntKind.i64 (p + n))) (So (m_ref08_Of iv) (fun (y0 : Int) => (So (m_ref08_Turn l2 y0 1 w2) (fun (y1 : Bool × List Int) => (J1 (mkEnv [(1, .row 0), (2, vi (p)), (3, vi (n)), (4, .ptr 1 0), (9, vi (was)), (10, vi (IntKind.wrap IntKind.i64 (iv + 1)))]) [.row 0 (Prod.snd y1 : List (Int)) Bool.false, .cells 30 (e_api_Config (T_assartref02_Layout.C l2))]))))) (So (m_ref08_Count l2 w2) (fun (y2 : Int) => (K (vi (IntKind.wrap IntKind.i64 (y2 - was))) [.row 0 (w2 : List (Int)) Bool.false])))) := by
  kernel_rfl

theorem nf_ref08_Ensure (m_ref08_all : T_assartref02_Layout → Int → Int → Option (Bool)) (m_ref08_Count : T_assartref02_Layout → (List Int) → Option (Int)) (m_ref08_Of : Int → Option (Int)) (m_ref08_Turn : T_assartref02_Layout → Int → Int → (List Int) → Option (Bool × (List Int))) (l2 : T_assartref02_Layout) (p : Int) (n : Int) (w : List Int) (K : V → Heap → Prop) : (exF (cfg_ref08_Ensure m_ref08_all m_ref08_Count m_ref08_Of m_ref08_Turn) Try.f78 [.agg (e_assartref02_Layout l2), .row 0, vi p, vi n] [.row 0 w false] K) = (
    So (m_ref08_all l2 p n) (fun (y0 : Bool) => (br (!y0) (K (vi (0)) [.row 0 (w : List (Int)) Bool.false]) (So (m_ref08_Count l2 w) (fun (y1 : Int) => (Loop (cfg_ref08_Ensure m_ref08_all m_ref08_Count m_ref08_Of m_ref08_Turn) (⟨37, 1⟩ : Cx) (at_ (bodyOf Try.f78) [1, 1, 1, 0, 1, 0, 0]) (mkEnv [(1, .row 0), (2, vi (p)), (3, vi (n)), (4, .ptr 1 0), (9, vi (y1)), (10, vi (p))]) [.row 0 (w : List (Int)) Bool.false, .cells 30 (e_api_Config (T_assartref02_Layout.C l2))] (contK (cfg_ref08_Ensure m_ref08_all m_ref08_Count m_ref08_Of m_ref08_Turn) (⟨37, 1⟩ : Cx) (bodyOf Try.f78) [1, 1, 1, 0, 1, 0] (retK (cfg_ref08_Ensure m_ref08_all m_ref08_Count m_ref08_Of m_ref08_Turn) Try.f78 1 K)))))))) := by
  kernel_rfl

noncomputable def m_ref08_Of (p : Int) : Option (Int) :=
  (bif (Decidable.decide (p < 0)) then some ((-1)) else some ((IntKind.wrap IntKind.i64 (Int.tdiv p 4))))

noncomputable def m_ref08_there (l2 : T_assartref02_Layout) (k : Int) : Option (Bool) :=
  (bif (Decidable.decide (k ≥ 0)) then ((m_ref02_Layout_Chunks l2).bind fun y0 => some ((Decidable.decide (k < y0)))) else some ((Bool.false)))

noncomputable def m_ref08_Pages (l2 : T_assartref02_Layout) (k : Int) : Option (Int × Int) :=
  ((m_ref08_there l2 k).bind fun y0 => (bif (!y0) then some (((0), (0))) else some (((IntKind.wrap IntKind.i64 (4 * k)), (if IntKind.wrap IntKind.i64 (T_api_Config.Pages (T_assartref02_Layout.C l2) - IntKind.wrap IntKind.i64 ((4 : Int) * k)) < (4 : Int) then IntKind.wrap IntKind.i64 (T_api_Config.Pages (T_assartref02_Layout.C l2) - IntKind.wrap IntKind.i64 ((4 : Int) * k)) else (4 : Int))))))

noncomputable def m_ref08_Mapped (l2 : T_assartref02_Layout) (k : Int) (w : List Int) : Option (Bool) :=
  ((m_ref08_there l2 k).bind fun y0 => (bif (y0) then ((m_ref02_Layout_Table l2 k).bind fun y1 => (bif (inR y1 (List.length w)) then (bif (inR (offs y1 0) (List.length w)) then some ((List.getD w (Int.toNat (offs y1 0)) 0 == 1)) else none) else none)) else some ((Bool.false))))

noncomputable def sb_ref08_Count_L1 (l2 : T_assartref02_Layout) (w : List Int) (n : Int) (p : Int) : Option ((Int × Int) ⊕ (Int)) :=
  (bif (Decidable.decide (p < T_api_Config.Pages (T_assartref02_Layout.C l2))) then ((m_ref08_Of p).bind fun y0 => ((m_ref08_Mapped l2 y0 w).bind fun y1 => (bif (y1) then some (.inl ((IntKind.wrap IntKind.i64 (n + 1)), (IntKind.wrap IntKind.i64 (p + 1)))) else some (.inl ((n), (IntKind.wrap IntKind.i64 (p + 1))))))) else some (.inr ((n))))

noncomputable def lp_ref08_Count_L1 (l2 : T_assartref02_Layout) (w : List Int) (s : Int × Int) : Option (Int) :=
  loopO (fun s => sb_ref08_Count_L1 l2 w s.1 s.2) s

noncomputable def m_ref08_Count (l2 : T_assartref02_Layout) (w : List Int) : Option (Int) :=
  (lp_ref08_Count_L1 l2 w ((0), (0)))

noncomputable def m_ref08_Turn (l2 : T_assartref02_Layout) (k : Int) (xv : Int) (w : List Int) : Option (Bool × (List Int)) :=
  ((m_ref08_there l2 k).bind fun y0 => (bif (!y0) then some (((Bool.false), (w))) else ((m_ref08_Mapped l2 k w).bind fun y1 => (bif (y1 == (xv == 1)) then some (((Bool.false), (w))) else ((m_ref02_Layout_Table l2 k).bind fun y2 => (bif (inR y2 (List.length w)) then (bif (inR (offs y2 0) (List.length w)) then some (((Bool.true), (List.set w (Int.toNat (offs y2 0)) xv))) else none) else none))))))

noncomputable def m_ref08_all (l2 : T_assartref02_Layout) (p : Int) (n : Int) : Option (Bool) :=
  (bif (Decidable.decide (n ≥ 1)) then (bif (Decidable.decide (p ≥ 0)) then (bif (Decidable.decide (p < T_api_Config.Pages (T_assartref02_Layout.C l2))) then some ((Decidable.decide (n ≤ IntKind.wrap IntKind.i64 (T_api_Config.Pages (T_assartref02_Layout.C l2) - p)))) else some ((Bool.false))) else some ((Bool.false))) else some ((Bool.false)))

noncomputable def sb_ref08_Ensure_L1 (l2 : T_assartref02_Layout) (p : Int) (n : Int) (was : Int) (iv : Int) (w2 : List Int) : Option ((Int × (List Int)) ⊕ (Int × (List Int))) :=
  (bif (Decidable.decide (iv < IntKind.wrap IntKind.i64 (p + n))) then ((m_ref08_Of iv).bind fun y0 => ((m_ref08_Turn l2 y0 1 w2).bind fun y1 => some (.inl ((IntKind.wrap IntKind.i64 (iv + 1)), (Prod.snd y1))))) else ((m_ref08_Count l2 w2).bind fun y2 => some (.inr (((IntKind.wrap IntKind.i64 (y2 - was)), (w2))))))

noncomputable def lp_ref08_Ensure_L1 (l2 : T_assartref02_Layout) (p : Int) (n : Int) (was : Int) (s : Int × (List Int)) : Option (Int × (List Int)) :=
  loopO (fun s => sb_ref08_Ensure_L1 l2 p n was s.1 s.2) s

noncomputable def m_ref08_Ensure (l2 : T_assartref02_Layout) (p : Int) (n : Int) (w : List Int) : Option (Int × (List Int)) :=
  ((m_ref08_all l2 p n).bind fun y0 => (bif (!y0) then some (((0), (w))) else ((m_ref08_Count l2 w).bind fun y1 => (lp_ref08_Ensure_L1 l2 p n (y1) ((p), (w))))))

attribute [local irreducible] Loop ex exF contK roundK retK at_ bodyOf mkEnv
theorem ok_ref08_Of : SpecOK Try.prog elTT 127 (sp_ref08_Of m_ref08_Of) := by
  refine spec_of_exF (cfg := cfg_ref08_Of) (cfg_ok rfl rfl rfl) sig_nil (fn := Try.f127) (by kernel_rfl) (by kernel_rfl) (by kernel_rfl) ?_
  intro args H K h
  change tr_ref08_Of m_ref08_Of args H K at h
  unfold tr_ref08_Of at h
  replace h := aC_el h
  obtain ⟨a0, _, rfl, h⟩ := h
  replace h := aN_el h
  obtain ⟨rfl, h⟩ := h
  replace h := aInt_el h
  obtain ⟨p, rfl, h⟩ := h
  replace h := aN_el h
  obtain ⟨rfl, h⟩ := h
  refine Eq.mpr (nf_ref08_Of p K) ?_
  unfold m_ref08_Of at h
  revert h
  exact br_So (fun h => h) (fun h => h)

theorem ok_ref08_there : SpecOK Try.prog elTT 124 (sp_ref08_there m_ref08_there) := by
  refine spec_of_exF (cfg := (cfg_ref08_there m_ref02_Layout_Chunks)) (cfg_ok rfl rfl rfl) (sig_cons ok_ref02_Layout_Chunks sig_nil) (fn := Try.f124) (by kernel_rfl) (by kernel_rfl) (by kernel_rfl) ?_
  intro args H K h
  change tr_ref08_there m_ref08_there args H K at h
  unfold tr_ref08_there at h
  replace h := aC_el h
  obtain ⟨a0, _, rfl, h⟩ := h
  replace h := aC_el h
  obtain ⟨a1, _, rfl, h⟩ := h
  replace h := aN_el h
  obtain ⟨rfl, h⟩ := h
  replace h := aAgg_el h
  obtain ⟨c0, rfl, h⟩ := h
  replace h := d_assartref02_Layout_el h
  obtain ⟨l2, rfl, h⟩ := h
  replace h := aInt_el h
  obtain ⟨k, rfl, h⟩ := h
  replace h := aN_el h
  obtain ⟨rfl, h⟩ := h
  refine Eq.mpr (nf_ref08_there m_ref02_Layout_Chunks l2 k K) ?_
  unfold m_ref08_there at h
  revert h
  exact br_So (bind_So fun y0 => fun h => h) (fun h => h)

theorem ok_ref08_Pages : SpecOK Try.prog elTT 144 (sp_ref08_Pages m_ref08_Pages) := by
  refine spec_of_exF (cfg := (cfg_ref08_Pages m_ref08_there)) (cfg_ok rfl rfl rfl) (sig_cons ok_ref08_there sig_nil) (fn := Try.f144) (by kernel_rfl) (by kernel_rfl) (by kernel_rfl) ?_
  intro args H K h
  change tr_ref08_Pages m_ref08_Pages args H K at h
  unfold tr_ref08_Pages at h
  replace h := aC_el h
  obtain ⟨a0, _, rfl, h⟩ := h
  replace h := aC_el h
  obtain ⟨a1, _, rfl, h⟩ := h
  replace h := aN_el h
  obtain ⟨rfl, h⟩ := h
  replace h := aAgg_el h
  obtain ⟨c0, rfl, h⟩ := h
  replace h := d_assartref02_Layout_el h
  obtain ⟨l2, rfl, h⟩ := h
  replace h := aInt_el h
  obtain ⟨k, rfl, h⟩ := h
  replace h := aN_el h
  obtain ⟨rfl, h⟩ := h
  refine Eq.mpr (nf_ref08_Pages m_ref08_there l2 k K) ?_
  unfold m_ref08_Pages at h
  revert h
  exact bind_So fun y0 => br_So (fun h => h) (fun h => h)

theorem ok_ref08_Mapped : SpecOK Try.prog elTT 76 (sp_ref08_Mapped m_ref08_Mapped) := by
  refine spec_of_exF (cfg := (cfg_ref08_Mapped m_ref08_there m_ref02_Layout_Table)) (cfg_ok rfl rfl rfl) (sig_cons ok_ref08_there (sig_cons ok_ref02_Layout_Table sig_nil)) (fn := Try.f76) (by kernel_rfl) (by kernel_rfl) (by kernel_rfl) ?_
  intro args H K h
  change tr_ref08_Mapped m_ref08_Mapped args H K at h
  unfold tr_ref08_Mapped at h
  replace h := aC_el h
  obtain ⟨a0, _, rfl, h⟩ := h
  replace h := aC_el h
  obtain ⟨a1, _, rfl, h⟩ := h
  replace h := aC_el h
  obtain ⟨a2, _, rfl, h⟩ := h
  replace h := aN_el h
  obtain ⟨rfl, h⟩ := h
  replace h := aAgg_el h
  obtain ⟨c0, rfl, h⟩ := h
  replace h := d_assartref02_Layout_el h
  obtain ⟨l2, rfl, h⟩ := h
  replace h := aRow_el h
  obtain ⟨rfl, h⟩ := h
  replace h := aInt_el h
  obtain ⟨k, rfl, h⟩ := h
  replace h := aC_el h
  obtain ⟨b0, _, rfl, h⟩ := h
  replace h := aN_el h
  obtain ⟨rfl, h⟩ := h
  replace h := bRow_el h
  obtain ⟨(w : List Int), rfl, h⟩ := h
  refine Eq.mpr (nf_ref08_Mapped m_ref08_there m_ref02_Layout_Table l2 k w K) ?_
  unfold m_ref08_Mapped at h
  revert h
  exact bind_So fun y0 => br_So (bind_So fun y1 => req_So (req_So (fun h => h))) (fun h => h)

theorem lpok_ref08_Count_L1 (l2 : T_assartref02_Layout) (w : List Int) (n : Int) (p : Int) (K : V → Heap → Prop) : So (lp_ref08_Count_L1 (l2) (w) (n, p)) (fun (x : Int) => K (vi (x)) [.row 0 w true]) → Loop (cfg_ref08_Count m_ref08_Of m_ref08_Mapped) (⟨22, 1⟩ : Cx) (at_ (bodyOf Try.f79) [1, 1, 0, 1, 0, 0]) (mkEnv [(1, .row 0), (2, .ptr 1 0), (5, vi (n)), (6, vi (p))]) [.row 0 (w : List (Int)) Bool.true, .cells 30 (e_api_Config (T_assartref02_Layout.C l2))] (contK (cfg_ref08_Count m_ref08_Of m_ref08_Mapped) (⟨22, 1⟩ : Cx) (bodyOf Try.f79) [1, 1, 0, 1, 0] (retK (cfg_ref08_Count m_ref08_Of m_ref08_Mapped) Try.f79 1 K)) := by
  refine loopK_So (fun (s_ : Int × Int) => (mkEnv [(1, .row 0), (2, .ptr 1 0), (5, vi ((s_.1))), (6, vi ((s_.2)))])) (fun (s_ : Int × Int) => [.row 0 (w : List (Int)) Bool.true, .cells 30 (e_api_Config (T_assartref02_Layout.C l2))]) (fun (x : Int) => K (vi (x)) [.row 0 w true]) ?_ (n, p)
  intro s_ J1 h
  clear n
  clear p
  obtain ⟨n, p⟩ := s_
  refine Eq.mpr (nf_ref08_Count_L1 m_ref08_Of m_ref08_Mapped l2 w n p K J1) ?_
  have h : So (sb_ref08_Count_L1 (l2) (w) n p) _ := h
  unfold sb_ref08_Count_L1 at h
  revert h
  exact br_So (bind_So fun y0 => bind_So fun y1 => br_So (fun h => h) (fun h => h)) (fun h => h)

theorem ok_ref08_Count : SpecOK Try.prog elTT 79 (sp_ref08_Count m_ref08_Count) := by
  refine spec_of_exF (cfg := (cfg_ref08_Count m_ref08_Of m_ref08_Mapped)) (cfg_ok rfl rfl rfl) (sig_cons ok_ref08_Of (sig_cons ok_ref08_Mapped sig_nil)) (fn := Try.f79) (by kernel_rfl) (by kernel_rfl) (by kernel_rfl) ?_
  intro args H K h
  change tr_ref08_Count m_ref08_Count args H K at h
  unfold tr_ref08_Count at h
  replace h := aC_el h
  obtain ⟨a0, _, rfl, h⟩ := h
  replace h := aC_el h
  obtain ⟨a1, _, rfl, h⟩ := h
  replace h := aN_el h
  obtain ⟨rfl, h⟩ := h
  replace h := aAgg_el h
  obtain ⟨c0, rfl, h⟩ := h
  replace h := d_assartref02_Layout_el h
  obtain ⟨l2, rfl, h⟩ := h
  replace h := aRow_el h
  obtain ⟨rfl, h⟩ := h
  replace h := aC_el h
  obtain ⟨b0, _, rfl, h⟩ := h
  replace h := aN_el h
  obtain ⟨rfl, h⟩ := h
  replace h := bRow_el h
  obtain ⟨(w : List Int), rfl, h⟩ := h
  refine Eq.mpr (nf_ref08_Count m_ref08_Of m_ref08_Mapped l2 w K) ?_
  unfold m_ref08_Count at h
  revert h
  exact lpok_ref08_Count_L1 l2 w (0) (0) K

theorem ok_ref08_Turn : SpecOK Try.prog elTT 75 (sp_ref08_Turn m_ref08_Turn) := by
  refine spec_of_exF (cfg := (cfg_ref08_Turn m_ref08_there m_ref08_Mapped m_ref02_Layout_Table)) (cfg_ok rfl rfl rfl) (sig_cons ok_ref08_there (sig_cons ok_ref08_Mapped (sig_cons ok_ref02_Layout_Table sig_nil))) (fn := Try.f75) (by kernel_rfl) (by kernel_rfl) (by kernel_rfl) ?_
  intro args H K h
  change tr_ref08_Turn m_ref08_Turn args H K at h
  unfold tr_ref08_Turn at h
  replace h := aC_el h
  obtain ⟨a0, _, rfl, h⟩ := h
  replace h := aC_el h
  obtain ⟨a1, _, rfl, h⟩ := h
  replace h := aC_el h
  obtain ⟨a2, _, rfl, h⟩ := h
  replace h := aC_el h
  obtain ⟨a3, _, rfl, h⟩ := h
  replace h := aN_el h
  obtain ⟨rfl, h⟩ := h
  replace h := aAgg_el h
  obtain ⟨c0, rfl, h⟩ := h
  replace h := d_assartref02_Layout_el h
  obtain ⟨l2, rfl, h⟩ := h
  replace h := aRow_el h
  obtain ⟨rfl, h⟩ := h
  replace h := aInt_el h
  obtain ⟨k, rfl, h⟩ := h
  replace h := aInt_el h
  obtain ⟨xv, rfl, h⟩ := h
  replace h := aC_el h
  obtain ⟨b0, _, rfl, h⟩ := h
  replace h := aN_el h
  obtain ⟨rfl, h⟩ := h
  replace h := bRow_el h
  obtain ⟨(w : List Int), rfl, h⟩ := h
  refine Eq.mpr (nf_ref08_Turn m_ref08_there m_ref08_Mapped m_ref02_Layout_Table l2 k xv w K) ?_
  unfold m_ref08_Turn at h
  revert h
  exact bind_So fun y0 => br_So (fun h => h) (bind_So fun y1 => br_So (fun h => h) (bind_So fun y2 => req_So (req_So (fun h => h))))

theorem ok_ref08_all : SpecOK Try.prog elTT 126 (sp_ref08_all m_ref08_all) := by
  refine spec_of_exF (cfg := cfg_ref08_all) (cfg_ok rfl rfl rfl) sig_nil (fn := Try.f126) (by kernel_rfl) (by kernel_rfl) (by kernel_rfl) ?_
  intro args H K h
  change tr_ref08_all m_ref08_all args H K at h
  unfold tr_ref08_all at h
  replace h := aC_el h
  obtain ⟨a0, _, rfl, h⟩ := h
  replace h := aC_el h
  obtain ⟨a1, _, rfl, h⟩ := h
  replace h := aC_el h
  obtain ⟨a2, _, rfl, h⟩ := h
  replace h := aN_el h
  obtain ⟨rfl, h⟩ := h
  replace h := aAgg_el h
  obtain ⟨c0, rfl, h⟩ := h
  replace h := d_assartref02_Layout_el h
  obtain ⟨l2, rfl, h⟩ := h
  replace h := aInt_el h
  obtain ⟨p, rfl, h⟩ := h
  replace h := aInt_el h
  obtain ⟨n, rfl, h⟩ := h
  replace h := aN_el h
  obtain ⟨rfl, h⟩ := h
  refine Eq.mpr (nf_ref08_all l2 p n K) ?_
  unfold m_ref08_all at h
  revert h
  exact br_So (br_So (br_So (fun h => h) (fun h => h)) (fun h => h)) (fun h => h)

theorem lpok_ref08_Ensure_L1 (l2 : T_assartref02_Layout) (p : Int) (n : Int) (w : List Int) (was : Int) (iv : Int) (w2 : List Int) (K : V → Heap → Prop) : So (lp_ref08_Ensure_L1 (l2) (p) (n) (was) (iv, w2)) (fun (x : Int × (List Int)) => K (vi (x.1)) [.row 0 (x.2) false]) → Loop (cfg_ref08_Ensure m_ref08_all m_ref08_Count m_ref08_Of m_ref08_Turn) (⟨37, 1⟩ : Cx) (at_ (bodyOf Try.f78) [1, 1, 1, 0, 1, 0, 0]) (mkEnv [(1, .row 0), (2, vi (p)), (3, vi (n)), (4, .ptr 1 0), (9, vi (was)), (10, vi (iv))]) [.row 0 (w2 : List (Int)) Bool.false, .cells 30 (e_api_Config (T_assartref02_Layout.C l2))] (contK (cfg_ref08_Ensure m_ref08_all m_ref08_Count m_ref08_Of m_ref08_Turn) (⟨37, 1⟩ : Cx) (bodyOf Try.f78) [1, 1, 1, 0, 1, 0] (retK (cfg_ref08_Ensure m_ref08_all m_ref08_Count m_ref08_Of m_ref08_Turn) Try.f78 1 K)) := by
  refine loopK_So (fun (s_ : Int × (List Int)) => (mkEnv [(1, .row 0), (2, vi (p)), (3, vi (n)), (4, .ptr 1 0), (9, vi (was)), (10, vi ((s_.1)))])) (fun (s_ : Int × (List Int)) => [.row 0 ((s_.2) : List (Int)) Bool.false, .cells 30 (e_api_Config (T_assartref02_Layout.C l2))]) (fun (x : Int × (List Int)) => K (vi (x.1)) [.row 0 (x.2) false]) ?_ (iv, w2)
  intro s_ J1 h
  clear iv
  clear w2
  obtain ⟨iv, w2⟩ := s_
  refine Eq.mpr (nf_ref08_Ensure_L1 m_ref08_all m_ref08_Count m_ref08_Of m_ref08_Turn l2 p n w was iv w2 K J1) ?_
  have h : So (sb_ref08_Ensure_L1 (l2) (p) (n) (was) iv w2) _ := h
  unfold sb_ref08_Ensure_L1 at h
  revert h
  exact br_So (bind_So fun y0 => bind_So fun y1 => fun h => h) (bind_So fun y2 => fun h => h)

theorem ok_ref08_Ensure : SpecOK Try.prog elTT 78 (sp_ref08_Ensure m_ref08_Ensure) := by
  refine spec_of_exF (cfg := (cfg_ref08_Ensure m_ref08_all m_ref08_Count m_ref08_Of m_ref08_Turn)) (cfg_ok rfl rfl rfl) (sig_cons ok_ref08_all (sig_cons ok_ref08_Count (sig_cons ok_ref08_Of (sig_cons ok_ref08_Turn sig_nil)))) (fn := Try.f78) (by kernel_rfl) (by kernel_rfl) (by kernel_rfl) ?_
  intro args H K h
  change tr_ref08_Ensure m_ref08_Ensure args H K at h
  unfold tr_ref08_Ensure at h
  replace h := aC_el h
  obtain ⟨a0, _, rfl, h⟩ := h
  replace h := aC_el h
  obtain ⟨a1, _, rfl, h⟩ := h
  replace h := aC_el h
  obtain ⟨a2, _, rfl, h⟩ := h
  replace h := aC_el h
  obtain ⟨a3, _, rfl, h⟩ := h
  replace h := aN_el h
  obtain ⟨rfl, h⟩ := h
  replace h := aAgg_el h
  obtain ⟨c0, rfl, h⟩ := h
  replace h := d_assartref02_Layout_el h
  obtain ⟨l2, rfl, h⟩ := h
  replace h := aRow_el h
  obtain ⟨rfl, h⟩ := h
  replace h := aInt_el h
  obtain ⟨p, rfl, h⟩ := h
  replace h := aInt_el h
  obtain ⟨n, rfl, h⟩ := h
  replace h := aC_el h
  obtain ⟨b0, _, rfl, h⟩ := h
  replace h := aN_el h
  obtain ⟨rfl, h⟩ := h
  replace h := bRow_el h
  obtain ⟨(w : List Int), rfl, h⟩ := h
  refine Eq.mpr (nf_ref08_Ensure m_ref08_all m_ref08_Count m_ref08_Of m_ref08_Turn l2 p n w K) ?_
  unfold m_ref08_Ensure at h
  revert h
  exact bind_So fun y0 => br_So (fun h => h) (bind_So fun y1 => lpok_ref08_Ensure_L1 l2 p n w (y1) (p) (w) K)

end Go.Rx
end

section
/- Layer 8, plainly: the program's functions and the document's tell the same. -/
namespace Go.Rx
open Go.Proofs

section
variable {L : T_layout_Layout} {nw : Nat} {cur : List Int}
theorem Unmap_eq (v : VOK L nw cur) (k : Int) : m_chunk_Unmap nw cur L k = some (turnB cur L.c.Pages L.at_0 k 0, turnU cur L.c.Pages L.at_0 k 0) := by
  unfold m_chunk_Unmap; rw [turn_eq v]; rfl
theorem Mapped_eq (v : VOK L nw cur) (k : Int) : m_chunk_Mapped nw cur L k = some (isB cur L.c.Pages L.at_0 k 1) := by
  unfold m_chunk_Mapped; rw [is_eq v]; rfl
theorem cntN_le (cur : List Int) (pg tb : Int) : ∀ n : Nat, 0 ≤ cntN cur pg tb n ∧ cntN cur pg tb n ≤ 4 * (n : Int)
  | 0 => by simp [cntN]
  | n + 1 => by
    have h := cntN_le cur pg tb n
    have h2 := pagesN_le pg n
    simp only [cntN]
    cases isB cur pg tb n 1 <;> simp only [cond_true, cond_false] <;> omega
end

/-! The document's. -/
section
variable {c : T_api_Config}
theorem rOf_eq {p : Int} (h : -9223372036854775808 ≤ p ∧ p ≤ 9223372036854775807) : m_ref08_Of p = some (chunkI p) := by
  unfold m_ref08_Of chunkI
  by_cases a : p < 0
  · rw [decide_eq_true a]; rfl
  · rw [decide_eq_false a, Int.tdiv_eq_ediv_of_nonneg (by omega), wrap_id (by omega) (by omega)]; rfl
theorem rthere_eq (h : RightC c) (k : Int) : m_ref08_there ⟨c⟩ k = some (thereB c.Pages k) := by
  unfold m_ref08_there thereB
  rw [rChunks_eq h]
  by_cases a : 0 ≤ k
  · rw [decide_eq_true (show k ≥ 0 from a)]; rfl
  · rw [decide_eq_false (show ¬ k ≥ 0 from a)]; rfl
theorem rMapped_eq (h : RightC c) {w : List Int} (v : VOK (layC c) w.length w) (k : Int) : m_ref08_Mapped ⟨c⟩ k w = some (isB w c.Pages (layC c).at_0 k 1) := by
  unfold m_ref08_Mapped isB
  simp only [rthere_eq h, rTable_eq h, Option.bind_some]
  cases hk : thereB c.Pages k with
  | false => rfl
  | true =>
    obtain ⟨h1, h2⟩ := tab_in v hk
    have ho : offs ((layC c).at_0 + k) 0 = (layC c).at_0 + k := by
      obtain ⟨k1, k2⟩ := there_of hk
      have := v.tab
      have e : (layC c).at_0 + k = ((((layC c).at_0 + k).toNat : Nat) : Int) := by omega
      rw [e]; rfl
    simp only [cond_true, h1, h2, ho, Bool.true_and]
theorem rTurn_eq (h : RightC c) {w : List Int} (v : VOK (layC c) w.length w) (k st : Int) : m_ref08_Turn ⟨c⟩ k st w = some (turnB w c.Pages (layC c).at_0 k st, turnU w c.Pages (layC c).at_0 k st) := by
  unfold m_ref08_Turn turnU turnB
  simp only [rthere_eq h, rTable_eq h, rMapped_eq h v, Option.bind_some]
  cases hk : thereB c.Pages k with
  | false => rfl
  | true =>
    obtain ⟨h1, h2⟩ := tab_in v hk
    have ho : offs ((layC c).at_0 + k) 0 = (layC c).at_0 + k := by
      obtain ⟨k1, k2⟩ := there_of hk
      have := v.tab
      have e : (layC c).at_0 + k = ((((layC c).at_0 + k).toNat : Nat) : Int) := by omega
      rw [e]; rfl
    have e : isB w c.Pages (layC c).at_0 k 1 = (w.getD ((layC c).at_0 + k).toNat 0 == 1) := by unfold isB; rw [hk]; rfl
    rw [e]
    simp only [Bool.not_true, cond_false, h1, h2, ho, cond_true, Bool.true_and]
    cases (w.getD ((layC c).at_0 + k).toNat 0 == 1) == (st == 1) <;> rfl
theorem rall_eq (h : RightC c) (p n : Int) : m_ref08_all ⟨c⟩ p n = some (spanB c.Pages p n) := by
  have hpg := h.pages
  unfold m_ref08_all spanB
  by_cases a : 1 ≤ n
  · rw [decide_eq_true (show n ≥ 1 from a)]
    by_cases b : 0 ≤ p
    · rw [decide_eq_true (show p ≥ 0 from b)]
      by_cases d : p < c.Pages
      · rw [decide_eq_true d, wrap_id (x := c.Pages - p) (by omega) (by omega)]; rfl
      · rw [decide_eq_false d]; rfl
    · rw [decide_eq_false (show ¬ p ≥ 0 from b)]; rfl
  · rw [decide_eq_false (show ¬ n ≥ 1 from a)]; rfl
theorem rcN_le (cur : List Int) (pg tb : Int) : ∀ n : Nat, 0 ≤ rcN cur pg tb n ∧ rcN cur pg tb n ≤ (n : Int)
  | 0 => by simp [rcN]
  | n + 1 => by
    have h := rcN_le cur pg tb n
    simp only [rcN]
    cases isB cur pg tb ((n : Int) / 4) 1 <;> simp only [cond_true, cond_false] <;> omega
theorem rCount8_eq (h : RightC c) {w : List Int} (v : VOK (layC c) w.length w) : m_ref08_Count ⟨c⟩ w = some (countM w c.Pages (layC c).at_0) := by
  unfold m_ref08_Count
  have hpg := h.pages
  rw [← rc_count (by omega)]
  have hc : (c.Pages.toNat : Int) = c.Pages := by omega
  obtain ⟨r, h1, rfl⟩ := loopO_ind (step := fun s : Int × Int => sb_ref08_Count_L1 ⟨c⟩ w s.1 s.2)
    (I := fun s => ∃ j : Nat, j ≤ c.Pages.toNat ∧ s = (rcN w c.Pages (layC c).at_0 j, (j : Int))) (μ := fun s => c.Pages.toNat - s.2.toNat) (fun r => r = rcN w c.Pages (layC c).at_0 c.Pages.toNat) (by
      rintro _ ⟨j, hj, rfl⟩
      simp only [sb_ref08_Count_L1]
      have hle := rcN_le w c.Pages (layC c).at_0 j
      by_cases e : j < c.Pages.toNat
      · have hch : chunkI (j : Int) = (j : Int) / 4 := by unfold chunkI; rw [decide_eq_false (by omega)]; rfl
        rw [decide_eq_true (show (j : Int) < c.Pages by omega), cond_true, rOf_eq (by omega), Option.bind_some, rMapped_eq h v, Option.bind_some, wrap_succ (by omega), wrap_id (by omega) (by omega), hch]
        refine .inl ⟨(rcN w c.Pages (layC c).at_0 (j + 1), ((j + 1 : Nat) : Int)), ?_, ⟨j + 1, e, rfl⟩, by simp only; omega⟩
        simp only [rcN]
        cases isB w c.Pages (layC c).at_0 ((j : Int) / 4) 1 <;> simp
      · have ej : j = c.Pages.toNat := by omega
        subst ej
        rw [decide_eq_false (by omega), cond_false]
        exact .inr ⟨_, rfl, rfl⟩) (0, 0) ⟨0, by omega, rfl⟩
  exact h1
theorem rensN_len (cur : List Int) (pg tb p : Int) : ∀ n, (rensN cur pg tb p n).length = cur.length
  | 0 => rfl
  | n + 1 => by rw [rensN, turnU_len, rensN_len]
theorem rEnsure_eq (h : RightC c) {w : List Int} (v : VOK (layC c) w.length w) (p n : Int) : m_ref08_Ensure ⟨c⟩ p n w = some (ensM w c.Pages (layC c).at_0 p n) := by
  unfold m_ref08_Ensure
  rw [rall_eq h, Option.bind_some]
  cases hs : spanB c.Pages p n with
  | false =>
    have hm : ensK c.Pages p n = 0 := by unfold ensK; rw [hs]; rfl
    unfold ensM; rw [hm]; rfl
  | true =>
    obtain ⟨s1, s2, s3, s4⟩ := span_of hs
    have hpg := h.pages
    rw [Bool.not_true, cond_false, rCount8_eq h v, Option.bind_some]
    have ht := v.tab
    have hv : ∀ j, VOK (layC c) (rensN w c.Pages (layC c).at_0 p j).length (rensN w c.Pages (layC c).at_0 p j) := fun j => ⟨v.lay, rfl, by rw [rensN_len]; exact v.all⟩
    have hcnt : ∀ u : List Int, 0 ≤ countM u c.Pages (layC c).at_0 ∧ countM u c.Pages (layC c).at_0 ≤ 1000 := fun u => by
      have := cntN_le u c.Pages (layC c).at_0 (chunksN c.Pages)
      unfold countM; unfold chunksN at *; omega
    obtain ⟨r, h1, rfl⟩ := loopO_ind (step := fun s : Int × List Int => sb_ref08_Ensure_L1 ⟨c⟩ p n (countM w c.Pages (layC c).at_0) s.1 s.2)
      (I := fun s => ∃ j : Nat, j ≤ n.toNat ∧ s = (p + j, rensN w c.Pages (layC c).at_0 p j)) (μ := fun s => (p + n - s.1).toNat) (fun r => r = ensM w c.Pages (layC c).at_0 p n) (by
        rintro _ ⟨j, hj, rfl⟩
        simp only [sb_ref08_Ensure_L1]
        rw [wrap_id (x := p + n) (by omega) (by omega)]
        by_cases e : j < n.toNat
        · have hch : chunkI (p + j) = (p + j) / 4 := by unfold chunkI; rw [decide_eq_false (by omega)]; rfl
          rw [decide_eq_true (show p + (j : Int) < p + n by omega), cond_true, rOf_eq (by omega), Option.bind_some, rTurn_eq h (hv j), Option.bind_some, hch, wrap_id (x := p + (j : Int) + 1) (by omega) (by omega)]
          refine .inl ⟨(p + ((j + 1 : Nat) : Int), rensN w c.Pages (layC c).at_0 p (j + 1)), ?_, ⟨j + 1, by omega, rfl⟩, by simp only; omega⟩
          simp only [rensN]
          congr 3; omega
        · have ej : j = n.toNat := by omega
          subst ej
          rw [decide_eq_false (by omega), cond_false, rCount8_eq h (hv _), Option.bind_some, rens_all (pg := c.Pages) (by omega) ht.2 hs]
          have hce := count_ens (pg := c.Pages) (tb := (layC c).at_0) (cur := w) (by omega) ht.2 (p / 4) (ensK c.Pages p n)
          have hb := hcnt (ensM w c.Pages (layC c).at_0 p n).2
          have hb0 := hcnt w
          refine .inr ⟨_, rfl, ?_⟩
          unfold ensM at hb ⊢
          rw [hce] at hb ⊢
          rw [wrap_id (by omega) (by omega)]
          have : countM w c.Pages (layC c).at_0 + (ensG c.Pages (layC c).at_0 w (p / 4) (ensK c.Pages p n)).1 - countM w c.Pages (layC c).at_0 = (ensG c.Pages (layC c).at_0 w (p / 4) (ensK c.Pages p n)).1 := by omega
          rw [this]) (p, w) ⟨0, by omega, by simp [rensN]⟩
    exact h1
end
end Go.Rx
end

section
/- Contracts. -/
namespace Go.Rx
open Go.Proofs
set_option maxRecDepth 100000
set_option maxHeartbeats 4000000
/-! assart/assartlaw08.Small -/
def tr_law08_Small (m_ : T_api_Config → Option (T_api_Config)) (args : List V) (H : Heap) (K : V → Heap → Prop) : Prop :=
  aC args fun a0 r => aN r <| aAgg a0 fun c0 => d_api_Config c0 fun c => aN H <| So (m_ c) fun x => K (.agg (e_api_Config (x))) []
def sp_law08_Small (m_ : T_api_Config → Option (T_api_Config)) : Spec := ⟨tr_law08_Small m_, (true : Bool)⟩

/-! assart/assartlaw08.Begin -/
def tr_law08_Begin (m_ : T_api_Config → Option (T_layout_Layout × T_assartref02_Layout × (List Int))) (args : List V) (H : Heap) (K : V → Heap → Prop) : Prop :=
  aC args fun a0 r => aN r <| aAgg a0 fun c0 => d_api_Config c0 fun c => aN H <| So (m_ c) fun x => K (.tup [.agg (e_layout_Layout (x.1)), .agg (e_assartref02_Layout (x.2.1)), .row 0]) [.row 0 (x.2.2) false]
def sp_law08_Begin (m_ : T_api_Config → Option (T_layout_Layout × T_assartref02_Layout × (List Int))) : Spec := ⟨tr_law08_Begin m_, (true : Bool)⟩

/-! assart/assartlaw08.done -/
/-! assart/assartlaw08.told -/
noncomputable def cfg_law08_Small (m_law02_Some : T_api_Config → Option (T_api_Config)) : Cfg := { cfgB with
  sigs := (sigC 119 (sp_law02_Some m_law02_Some) sigN) }

noncomputable def cfg_law08_Begin (m_law08_Small : T_api_Config → Option (T_api_Config)) (m_layout_Of : T_api_Config → Option (T_layout_Layout × Int)) (m_ref02_Layout_Words : T_assartref02_Layout → Option (Int)) : Cfg := { cfgB with
  sigs := (sigC 71 (sp_law08_Small m_law08_Small) (sigC 68 (sp_layout_Of m_layout_Of) (sigC 72 (sp_ref02_Layout_Words m_ref02_Layout_Words) sigN))),
  planT := fun r => match r with | 4 => some ((chainT [0, 1, 2, 3] (.alt (chainT [4, 5, 6, 7] .fin) (chainT [5] (.alt (chainT [4, 6, 7] .fin) (chainT [6, 4, 7] .fin))))), 3) | _ => none,
  flag := fun d => Nat.beq d 2 || Nat.beq d 3 }

theorem nf_law08_Small (m_law02_Some : T_api_Config → Option (T_api_Config)) (c : T_api_Config) (K : V → Heap → Prop) : (exF (cfg_law08_Small m_law02_Some) Try.f71 [.agg (e_api_Config c)] [] K) = (
    So (m_law02_Some c) (fun (y0 : T_api_Config) => (K (.agg [vi (IntKind.wrap IntKind.i64 (1 + Int.tmod (T_api_Config.Workers y0) 4)), vi (IntKind.wrap IntKind.i64 (1 + Int.tmod (T_api_Config.CPUs y0) 2)), vi (IntKind.wrap IntKind.i64 (1 + Int.tmod (T_api_Config.Pages y0) 9)), vi (IntKind.wrap IntKind.i64 (1 + Int.tmod (T_api_Config.Stripes y0) 4)), vi (T_api_Config.Tries y0), vi (T_api_Config.Wait y0), vi (T_api_Config.Clock y0), vi (IntKind.wrap IntKind.i64 (1 + Int.tmod (T_api_Config.Private y0) 3)), vi (Int.tmod (T_api_Config.Cache y0) 3), vi (Int.tmod (T_api_Config.Bin y0) 4), vi (IntKind.wrap IntKind.i64 (1 + Int.tmod (T_api_Config.Batch y0) 3))]) []))) := by
  kernel_rfl

theorem nf_law08_Begin (m_law08_Small : T_api_Config → Option (T_api_Config)) (m_layout_Of : T_api_Config → Option (T_layout_Layout × Int)) (m_ref02_Layout_Words : T_assartref02_Layout → Option (Int)) (c : T_api_Config) (K : V → Heap → Prop) : (exF (cfg_law08_Begin m_law08_Small m_layout_Of m_ref02_Layout_Words) Try.f15 [.agg (e_api_Config c)] [] K) = (
    So (m_law08_Small c) (fun (y0 : T_api_Config) => (So (m_layout_Of y0) (fun (y1 : T_layout_Layout × Int) => (So (m_ref02_Layout_Words (T_assartref02_Layout.mk y0)) (fun (y2 : Int) => (((Req (Decidable.decide (0 ≤ y2 ∧ y2 ≤ y2 ∧ y2 ≤ 1048576)) (K (.tup [.agg (e_layout_Layout (Prod.fst y1)), .agg (e_api_Config y0), .row 0]) [.row 0 (List.replicate (Int.toNat y2) (0 : Int) : List (Int)) Bool.false])) ∧ (((Req (Decidable.decide (0 ≤ y2 ∧ y2 ≤ y2 ∧ y2 ≤ 1048576)) (K (.tup [.agg (e_layout_Layout (Prod.fst y1)), .agg (e_api_Config y0), .row 0]) [.row 0 (List.replicate (Int.toNat y2) (0 : Int) : List (Int)) Bool.false])) ∧ (Req (Decidable.decide (0 ≤ y2 ∧ y2 ≤ y2 ∧ y2 ≤ 1048576)) (K (.tup [.agg (e_layout_Layout (Prod.fst y1)), .agg (e_api_Config y0), .row 0]) [.row 0 (List.replicate (Int.toNat y2) (0 : Int) : List (Int)) Bool.false])))))))))))) := by
  kernel_rfl

noncomputable def m_law08_Small (c : T_api_Config) : Option (T_api_Config) :=
  ((m_law02_Some c).bind fun y0 => some (((T_api_Config.mk (IntKind.wrap IntKind.i64 (1 + Int.tmod (T_api_Config.Workers y0) 4)) (IntKind.wrap IntKind.i64 (1 + Int.tmod (T_api_Config.CPUs y0) 2)) (IntKind.wrap IntKind.i64 (1 + Int.tmod (T_api_Config.Pages y0) 9)) (IntKind.wrap IntKind.i64 (1 + Int.tmod (T_api_Config.Stripes y0) 4)) (T_api_Config.Tries y0) (T_api_Config.Wait y0) (T_api_Config.Clock y0) (IntKind.wrap IntKind.i64 (1 + Int.tmod (T_api_Config.Private y0) 3)) (Int.tmod (T_api_Config.Cache y0) 3) (Int.tmod (T_api_Config.Bin y0) 4) (IntKind.wrap IntKind.i64 (1 + Int.tmod (T_api_Config.Batch y0) 3))))))

noncomputable def m_law08_Begin (c : T_api_Config) : Option (T_layout_Layout × T_assartref02_Layout × (List Int)) :=
  ((m_law08_Small c).bind fun y0 => ((m_layout_Of y0).bind fun y1 => ((m_ref02_Layout_Words (T_assartref02_Layout.mk y0)).bind fun y2 => (bif (Decidable.decide (0 ≤ y2 ∧ y2 ≤ y2 ∧ y2 ≤ 1048576)) then some ((((Prod.fst y1)), ((T_assartref02_Layout.mk (y0))), (List.replicate (Int.toNat y2) (0 : Int)))) else none))))

attribute [local irreducible] Loop ex exF contK roundK retK at_ bodyOf mkEnv
theorem ok_law08_Small : SpecOK Try.prog elTT 71 (sp_law08_Small m_law08_Small) := by
  refine spec_of_exF (cfg := (cfg_law08_Small m_law02_Some)) (cfg_ok rfl rfl rfl) (sig_cons ok_law02_Some sig_nil) (fn := Try.f71) (by kernel_rfl) (by kernel_rfl) (by kernel_rfl) ?_
  intro args H K h
  change tr_law08_Small m_law08_Small args H K at h
  unfold tr_law08_Small at h
  replace h := aC_el h
  obtain ⟨a0, _, rfl, h⟩ := h
  replace h := aN_el h
  obtain ⟨rfl, h⟩ := h
  replace h := aAgg_el h
  obtain ⟨c0, rfl, h⟩ := h
  replace h := d_api_Config_el h
  obtain ⟨c, rfl, h⟩ := h
  replace h := aN_el h
  obtain ⟨rfl, h⟩ := h
  refine Eq.mpr (nf_law08_Small m_law02_Some c K) ?_
  unfold m_law08_Small at h
  revert h
  exact bind_So fun y0 => fun h => h

theorem ok_law08_Begin : SpecOK Try.prog elTT 15 (sp_law08_Begin m_law08_Begin) := by
  refine spec_of_exF (cfg := (cfg_law08_Begin m_law08_Small m_layout_Of m_ref02_Layout_Words)) (cfg_ok rfl rfl rfl) (sig_cons ok_law08_Small (sig_cons ok_layout_Of (sig_cons ok_ref02_Layout_Words sig_nil))) (fn := Try.f15) (by kernel_rfl) (by kernel_rfl) (by kernel_rfl) ?_
  intro args H K h
  change tr_law08_Begin m_law08_Begin args H K at h
  unfold tr_law08_Begin at h
  replace h := aC_el h
  obtain ⟨a0, _, rfl, h⟩ := h
  replace h := aN_el h
  obtain ⟨rfl, h⟩ := h
  replace h := aAgg_el h
  obtain ⟨c0, rfl, h⟩ := h
  replace h := d_api_Config_el h
  obtain ⟨c, rfl, h⟩ := h
  replace h := aN_el h
  obtain ⟨rfl, h⟩ := h
  refine Eq.mpr (nf_law08_Begin m_law08_Small m_layout_Of m_ref02_Layout_Words c K) ?_
  unfold m_law08_Begin at h
  revert h
  exact bind_So fun y0 => bind_So fun y1 => bind_So fun y2 => alt_So (req_So (fun h => h)) (alt_So (req_So (fun h => h)) (req_So (fun h => h)))

end Go.Rx
end

section
/- Small configurations, plainly. -/
namespace Go.Rx
open Go.Proofs

def I64 (x : Int) : Prop := -9223372036854775808 ≤ x ∧ x ≤ 9223372036854775807

theorem Small_eq (c : T_api_Config) : ∃ d, m_law08_Small c = some d ∧ RightC d := by
  obtain ⟨d, h1, h2⟩ := Some_eq c
  unfold m_law08_Small
  rw [h1, Option.bind_some]
  refine ⟨_, rfl, ?_⟩
  obtain ⟨a, b, d', e, f, g, h', i, j, k, l⟩ := h2
  have md : ∀ x m : Int, 0 ≤ x → 0 < m → m ≤ 10 → Int.tmod x m = x % m ∧ 0 ≤ x % m ∧ x % m < m := fun x m h1 h2 h3 => ⟨Int.tmod_eq_emod_of_nonneg h1, Int.emod_nonneg _ (by omega), Int.emod_lt_of_pos _ h2⟩
  have m1 := md d.Workers 4 (by omega) (by omega) (by omega)
  have m2 := md d.CPUs 2 (by omega) (by omega) (by omega)
  have m3 := md d.Pages 9 (by omega) (by omega) (by omega)
  have m4 := md d.Stripes 4 (by omega) (by omega) (by omega)
  have m5 := md d.Private 3 (by omega) (by omega) (by omega)
  have m6 := md d.Cache 3 (by omega) (by omega) (by omega)
  have m7 := md d.Bin 4 (by omega) (by omega) (by omega)
  have m8 := md d.Batch 3 (by omega) (by omega) (by omega)
  simp only [m1.1, m2.1, m3.1, m4.1, m5.1, m6.1, m7.1, m8.1]
  simp (disch := omega) only [wrap_id]
  exact ⟨by simp only; omega, by simp only; omega, by simp only; omega, by simp only; omega, f, g, h', by simp only; omega, by simp only; omega, by simp only; omega, by simp only; omega⟩

theorem Begin_eq (c : T_api_Config) : ∃ d, RightC d ∧ m_law08_Begin c = some (layC d, ⟨d⟩, List.replicate (layC d).at_11.toNat 0) := by
  obtain ⟨d, h1, h2⟩ := Small_eq c
  have hb := (layC_ok h2).big; have h11 := (layC_ok h2).a11; have hp := (layC_ok h2).pages
  refine ⟨d, h2, ?_⟩
  unfold m_law08_Begin
  rw [h1, Option.bind_some, Of_eq, if_pos h2, Option.bind_some, rWords_eq h2, Option.bind_some, decide_eq_true (by omega)]
  rfl

theorem rep_VOK {L : T_layout_Layout} (h : LayOK L) : VOK L (List.replicate L.at_11.toNat (0 : Int)).length (List.replicate L.at_11.toNat 0) := by
  have hb := h.big; have h11 := h.a11; have hp := h.pages
  exact ⟨h, rfl, by simp; omega⟩
theorem VOK.le {L : T_layout_Layout} {nw : Nat} {cur : List Int} (v : VOK L nw cur) : 128 ≤ nw := by
  have hb := v.lay.big; have h11 := v.lay.a11; have hp := v.lay.pages; have := v.all
  omega

end Go.Rx
end

section
/- view.Do, by which program it runs. -/
namespace Go.Rx
theorem Req_el {b : Bool} {A : Prop} (h : Req b A) : b = true ∧ A := by
  cases b with
  | true => exact ⟨rfl, h⟩
  | false => exact h.elim
/-- A function by which function it is handed. -/
def altP (p : Nat) (g : FuncId) (s t : Spec) : Spec := ⟨fun args H K => match args[p]? with
  | some (.fn f _) => bif Nat.beq f g then s.tr args H K else t.tr args H K
  | _ => False, s.ro⟩
theorem altP_ok {P : Program} {e : ET} {n g : FuncId} {p : Nat} {s t : Spec} (hs : SpecOK P e n s) (ht : SpecOK P e n t) : SpecOK P e n (altP p g s t) := by
  refine ⟨hs.1, fun args H K h => ?_⟩
  unfold altP at h
  simp only at h
  split at h
  · rename_i f _ _
    cases hb : Nat.beq f g with
    | true => rw [hb] at h; exact hs.2 _ H K h
    | false => rw [hb] at h; exact ht.2 _ H K h
  · exact h.elim
end Go.Rx
end
