/- What the row's text of this claim stands on, part 3: the symbolic executor, contracts of the program's functions, plain facts. No condition. -/
import Derived.RangeFuncNested
import Derived.RangeFuncBound
import Derived.RangeFuncCalls
import Derived.RangeFuncLeaves
import Derived.RangeFuncFrom
import Derived.Shelf.Abstract
import Derived.Shelf.RegionOpen
import Derived.WalkKit
import Derived.OwnWalkIn
import Derived.TacticsInMore
import Derived.LoopNIn
import Derived.LoopIn
import Derived.Test.YtoejhbeppjagnaaGreatProg
import Derived.ScopeJumps
import Derived.Test.YtoejhbeppjagnaaGreatK11bB
section
namespace Go.Proofs
open Go.RowKit Go.Shelf
attribute [local go_sem] Oper.semAt_some
theorem cellB {W : World} {B : Nat} {v : Value} {t : TypeId} (h : W.heap[B]? = some (.cells #[v] t (0, 0))) : W.cell? ⟨B, 0, none⟩ = some v ∧ W.frozen? ⟨B, 0, none⟩ = false := by
  constructor <;> simp [World.cell?, World.frozen?, h]
theorem cellN (W : World) (v : Value) (t : TypeId) : (W.alloc (.cells #[v] t)).cell? ⟨W.heap.size, 0, none⟩ = some v ∧ (W.alloc (.cells #[v] t)).frozen? ⟨W.heap.size, 0, none⟩ = false := cellB (World.alloc_heap_new W _)
theorem cellA {W : World} {a : Addr} {v : Value} (o : Obj) (h : W.cell? a = some v) : (W.alloc o).cell? a = some v := cell_kept h (World.grownBy_alloc W o none) (fun r e => by cases e)
theorem frozenA {W : World} {a : Addr} {v : Value} (o : Obj) (h : W.cell? a = some v) (hf : W.frozen? a = false) : (W.alloc o).frozen? a = false := (frozen_kept h (World.grownBy_alloc W o none) (fun r e => by cases e)).trans hf
def maskI (i : Int) : Int := if i < 0 ∨ 32 ≤ i then 0 else 2 ^ i.toNat
def hasB (w i : Int) : Bool := bits .and .i64 w (maskI i) != 0
theorem pow32 {i : Int} (h : 0 ≤ i ∧ i < 32) : wrap64 (2 ^ i.toNat) = 2 ^ i.toNat := by
  have : i.toNat < 32 := by omega
  have h1 : (2 : Int) ^ i.toNat = ((2 ^ i.toNat : Nat) : Int) := by simp
  have h2 : (2 : Nat) ^ i.toNat ≤ 2 ^ 31 := Nat.pow_le_pow_right (by decide) (by omega)
  rw [h1]
  generalize 2 ^ i.toNat = k at *
  unfold wrap64
  omega
set_option maxRecDepth 100000 in
theorem mask_in (F : Fence) (n : Nat) (h : F.fn 61) (hro : F.round = none) (i : Int) (w : World) :
    CallsIn F n Tryz.prog 61 #[.int .i64 i] w fun e w' => e = .returned (.int .i64 (maskI i)) ∧ w' = w := by
  refine callsIn_of_wp Tryz.func61 rfl h ?_ hro
  simp only [Tryz.ntmps61, List.size_toArray, List.length_cons, List.length_nil, Nat.reduceAdd, Nat.reduceSub, Array.replicate_succ, Array.replicate_zero, List.push_toArray, List.append_toArray, List.nil_append, List.cons_append]
  gi_wp2
  · rename_i h1 h2
    refine bodyPost_ret (results_tmp rfl _ _ _) rfl ?_
    exact ⟨by unfold maskI; rw [if_pos h2]; rfl, rfl⟩
  · rename_i h1 h2
    refine bodyPost_ret (results_tmp rfl _ _ _) rfl ?_
    exact ⟨by unfold maskI; rw [if_neg (by omega)]; simp [pow32 h2], rfl⟩
  · rename_i h1
    refine bodyPost_ret (results_tmp rfl _ _ _) rfl ?_
    exact ⟨by unfold maskI; rw [if_pos (.inl h1)]; rfl, rfl⟩
set_option maxRecDepth 100000 in
theorem Has_in (F : Fence) (n : Nat) (h : F.fn 27) (h61 : F.fn 61) (hn : 1 ≤ n) (hro : F.round = none) (x i : Int) (w : World) :
    CallsIn F n Tryz.prog 27 #[.int .i64 x, .int .i64 i] w fun e w' => e = .returned (.bool (hasB x i)) ∧ w' = w := by
  refine callsIn_of_wp Tryz.func27 rfl h ?_ hro
  simp only [Tryz.ntmps27, List.size_toArray, List.length_cons, List.length_nil, Nat.reduceAdd, Nat.reduceSub, Array.replicate_succ, Array.replicate_zero, List.push_toArray, List.append_toArray, List.nil_append, List.cons_append]
  gi_wp2_with (gi_at_call 61; refine (mask_in F (n - 1) h61 hro i _).mono ?_; rintro e w' ⟨rfl, rfl⟩)
  refine bodyPost_ret (results_tmp rfl _ _ _) rfl ?_
  exact ⟨rfl, rfl⟩
def upTo (x : Int) (k : Nat) : List (Nat × Bool) := (List.range k).map fun (i : Nat) => (i, hasB x i)
theorem upTo_succ (x : Int) (k : Nat) : upTo x (k + 1) = upTo x k ++ [(k, hasB x k)] := by simp [upTo, List.range_succ]
theorem upTo_length (x : Int) (k : Nat) : (upTo x k).length = k := by simp [upTo]
def rounds (m : Int) : Nat := (max 0 (min m 32)).toNat
def KeepC (B : Nat) (A C : World) : Prop := ∀ v, A.cell? ⟨B, 0, none⟩ = some v → C.cell? ⟨B, 0, none⟩ = some v
theorem KeepC.refl (B : Nat) (A : World) : KeepC B A A := fun _ h => h
theorem KeepC.trans {B : Nat} {A C D : World} (h : KeepC B A C) (k : KeepC B C D) : KeepC B A D := fun v x => k v (h v x)
theorem keepC_b {B N : Nat} (W : World) (l : Nat) (o o' : Obj) (_ : N ≤ l) (h : W.heap[l]? = some o) (hc : o.isCells = false) (_ : o.isWalk = false) : KeepC B W (W.putObj l o') :=
  fun _ x => cell_kept x (grownBy_putObj' W l o') (fun r e => by cases e; exact ⟨o, h, hc⟩)
set_option maxRecDepth 100000 in
set_option maxHeartbeats 2000000 in
theorem below1_in (F : Fence) (n : Nat) (h92 : F.fn 92) (h27 : F.fn 27) (h61 : F.fn 61) (hro : F.round = none) (hn : 3 ≤ n) (l Bn Bx : Nat) (m x : Int) (J Jx : List (Nat × Bool) → World → Prop)
    (hY : ∀ pre y W, J pre W → pre.length < rounds m → YieldAt F (n - 1) Tryz.prog l #[.int .i64 (y.1 : Int), .bool y.2] W fun e W' =>
      (e = .returned (.bool true) ∧ J (pre ++ [y]) W' ∧ KeepC Bx W W') ∨ (e = .returned (.bool false) ∧ Jx (pre ++ [y]) W'))
    (W : World) (hBn : W.cell? ⟨Bn, 0, none⟩ = some (.int .i64 m)) (hBx : W.cell? ⟨Bx, 0, none⟩ = some (.int .i64 x)) (h0 : J [] W) :
    CallsIn F n Tryz.prog 92 #[.func (.yield l) #[] #[], .pointer (some ⟨Bn, 0, none⟩), .pointer (some ⟨Bx, 0, none⟩)] W fun e W' => (∃ v, e = .returned v) ∧
      ((∃ ys, ys = upTo x (rounds m) ∧ J ys W') ∨ (∃ pre, (∃ k, k < rounds m ∧ pre = upTo x (k + 1)) ∧ Jx pre W')) := by
  refine callsIn_of_wp Tryz.func92 rfl h92 ?_ hro
  simp only [Tryz.ntmps92, List.size_toArray, List.length_cons, List.length_nil, Nat.reduceAdd, Nat.reduceSub, Array.replicate_succ, Array.replicate_zero, List.push_toArray, List.append_toArray, List.nil_append, List.cons_append]
  have h1 : 1 ≤ n := by omega
  by_cases c1 : 32 < m
  · have hr : (rounds m : Int) = 32 := by unfold rounds; omega
    gi_wp2
    gi_loopw [8] (fun i wr => ∃ k : Nat, k ≤ rounds m ∧ i = .int .i64 k ∧ J (upTo x k) wr ∧ KeepC Bx W wr)
      (fun i _ => rounds m - (intOf i).toNat)
    case atStart => exact ⟨0, Nat.zero_le _, rfl, h0, KeepC.refl _ _⟩
    case round =>
      obtain ⟨k, hk, rfl, hJs, hnx⟩ := hrel
      have hBx' := hnx _ hBx
      by_cases hlt : k < rounds m
      · obtain ⟨fn, tmps, assign, body, hy, hR⟩ := hY _ (k, hasB x k) wr hJs (by rw [upTo_length]; exact hlt)
        dsimp only at hy
        gi_wp2_with (gi_at_call 27; refine (Has_in F (n - 1) h27 h61 (by omega) hro x k _).mono ?_; rintro e w' ⟨rfl, rfl⟩)
        refine hR.mono ?_
        rintro e W3 (⟨rfl, hJ3, hk3⟩ | ⟨rfl, hJx3⟩)
        · gi_wp2
          go_roundw
          case rel => exact ⟨k + 1, by omega, by simp, by rw [upTo_succ]; exact hJ3, hnx.trans hk3⟩
          case measure => simp [intOf]; omega
        · gi_wp2
          refine bodyPost_ret (results_none rfl _ _ _) rfl ?_
          exact ⟨⟨_, rfl⟩, .inr ⟨_, ⟨k, hlt, (upTo_succ _ _).symm⟩, hJx3⟩⟩
      · obtain rfl : k = rounds m := by omega
        gi_wp2
        go_end0
        exact ⟨⟨_, rfl⟩, .inl ⟨_, rfl, hJs⟩⟩
  · by_cases c2 : 0 < m
    · have hr : (rounds m : Int) = m := by unfold rounds; omega
      gi_wp2
      gi_loopw [8] (fun i wr => ∃ k : Nat, k ≤ rounds m ∧ i = .int .i64 k ∧ J (upTo x k) wr ∧ KeepC Bx W wr)
        (fun i _ => rounds m - (intOf i).toNat)
      case atStart => exact ⟨0, Nat.zero_le _, rfl, h0, KeepC.refl _ _⟩
      case round =>
        obtain ⟨k, hk, rfl, hJs, hnx⟩ := hrel
        have hBx' := hnx _ hBx
        by_cases hlt : k < rounds m
        · obtain ⟨fn, tmps, assign, body, hy, hR⟩ := hY _ (k, hasB x k) wr hJs (by rw [upTo_length]; exact hlt)
          dsimp only at hy
          gi_wp2_with (gi_at_call 27; refine (Has_in F (n - 1) h27 h61 (by omega) hro x k _).mono ?_; rintro e w' ⟨rfl, rfl⟩)
          refine hR.mono ?_
          rintro e W3 (⟨rfl, hJ3, hk3⟩ | ⟨rfl, hJx3⟩)
          · gi_wp2
            go_roundw
            case rel => exact ⟨k + 1, by omega, by simp, by rw [upTo_succ]; exact hJ3, hnx.trans hk3⟩
            case measure => simp [intOf]; omega
          · gi_wp2
            refine bodyPost_ret (results_none rfl _ _ _) rfl ?_
            exact ⟨⟨_, rfl⟩, .inr ⟨_, ⟨k, hlt, (upTo_succ _ _).symm⟩, hJx3⟩⟩
        · obtain rfl : k = rounds m := by omega
          gi_wp2
          go_end0
          exact ⟨⟨_, rfl⟩, .inl ⟨_, rfl, hJs⟩⟩
    · have hr : (rounds m : Int) = 0 := by unfold rounds; omega
      gi_wp2
      gi_loopw [8] (fun i wr => ∃ k : Nat, k ≤ rounds m ∧ i = .int .i64 k ∧ J (upTo x k) wr ∧ KeepC Bx W wr)
        (fun i _ => rounds m - (intOf i).toNat)
      case atStart => exact ⟨0, Nat.zero_le _, rfl, h0, KeepC.refl _ _⟩
      case round =>
        obtain ⟨k, hk, rfl, hJs, hnx⟩ := hrel
        have hBx' := hnx _ hBx
        by_cases hlt : k < rounds m
        · exact absurd hlt (by omega)
        · obtain rfl : k = rounds m := by omega
          gi_wp2
          go_end0
          exact ⟨⟨_, rfl⟩, .inl ⟨_, rfl, hJs⟩⟩
abbrev encY (y : Nat × Bool) : Array Value := #[.int .i64 (y.1 : Int), .bool y.2]
theorem below_stops (F : Fence) (n : Nat) (h92 : F.fn 92) (h27 : F.fn 27) (h61 : F.fn 61) (hro : F.round = none) (hn : 3 ≤ n) (Bn Bx : Nat) (m x : Int) (w : World) (hb : Bn < w.heap.size ∧ Bx < w.heap.size)
    (hBn : w.cell? ⟨Bn, 0, none⟩ = some (.int .i64 m)) (hBx : w.cell? ⟨Bx, 0, none⟩ = some (.int .i64 x)) :
    SeqStopsK F n Tryz.prog 92 #[.pointer (some ⟨Bn, 0, none⟩), .pointer (some ⟨Bx, 0, none⟩)] encY (KeepC Bx) (fun ys => ys = upTo x (rounds m)) (fun pre => ∃ k, k < rounds m ∧ pre = upTo x (k + 1)) (rounds m) w := fun l J Jx W hW _ _ hY h0 => by
  have c1 := (hW.cell (p := ⟨Bn, 0, none⟩) hb.1).trans hBn
  have c2 := (hW.cell (p := ⟨Bx, 0, none⟩) hb.2).trans hBx
  refine (below1_in F n h92 h27 h61 hro hn l Bn Bx m x J Jx hY W c1 c2 h0).mono ?_
  rintro e W' ⟨he, ⟨ys, rfl, hj⟩ | ⟨pre, hk, hj⟩⟩
  · exact ⟨he, .inl ⟨_, rfl, hj⟩⟩
  · exact ⟨he, .inr ⟨_, hk, hj⟩⟩
set_option maxHeartbeats 1000000 in
theorem below_in (F : Fence) (n : Nat) (h : F.fn 51) (hro : F.round = none) (x m : Int) (w : World) :
    CallsIn F n Tryz.prog 51 #[.int .i64 x, .int .i64 m] w fun e w' => e = .returned (.func (.func 92) #[] #[.pointer (some ⟨w.heap.size + 1, 0, none⟩), .pointer (some ⟨w.heap.size, 0, none⟩)]) ∧ w' = (w.alloc (.cells #[.int .i64 x] 3)).alloc (.cells #[.int .i64 m] 3) := by
  refine callsIn_of_wp Tryz.func51 rfl h ?_ hro
  simp only [Tryz.ntmps51, List.size_toArray, List.length_cons, List.length_nil, Nat.reduceAdd, Nat.reduceSub, Array.replicate_succ, Array.replicate_zero, List.push_toArray, List.append_toArray, List.nil_append, List.cons_append]
  gi_wp2
  refine bodyPost_ret (results_tmp rfl _ _ _) rfl ?_
  exact ⟨by simp, rfl⟩
def firstZ (x m : Int) : Int := match (upTo x (rounds m)).find? (fun p => !p.2) with | some p => p.1 | none => -1
theorem firstZ_some {x m : Int} {k : Nat} (hk : k < rounds m) (h : ∀ i, i < k → hasB x i = true) (h0 : hasB x k = false) : firstZ x m = k := by
  have e : (upTo x (rounds m)).find? (fun p => !p.2) = some (k, false) := by
    unfold upTo
    rw [List.find?_map]
    have : (List.range (rounds m)).find? ((fun p : Nat × Bool => !p.2) ∘ fun (i : Nat) => (i, hasB x i)) = some k := by
      rw [List.find?_range_eq_some]
      exact ⟨by simp [h0], by simpa using hk, fun j hj => by simp [h j hj]⟩
    rw [this]; simp [h0]
  unfold firstZ; rw [e]
theorem firstZ_none {x m : Int} (h : ∀ i, i < rounds m → hasB x i = true) : firstZ x m = -1 := by
  have e : (upTo x (rounds m)).find? (fun p => !p.2) = none := by
    rw [List.find?_eq_none]
    intro y hy
    unfold upTo at hy
    obtain ⟨i, hi, rfl⟩ := List.mem_map.1 hy
    simp [h i (by simpa using hi)]
  unfold firstZ; rw [e]
set_option maxRecDepth 100000 in
set_option maxHeartbeats 2000000 in
theorem First_in (F : Fence) (n : Nat) (h54 : F.fn 54) (h51 : F.fn 51) (h92 : F.fn 92) (h27 : F.fn 27) (h61 : F.fn 61) (hro : F.round = none) (hn : 4 ≤ n) (x m : Int) (w : World) :
    CallsIn F n Tryz.prog 54 #[.int .i64 x, .int .i64 m] w fun e W' => e = .returned (.int .i64 (firstZ x m)) ∧ Below w.heap.size w W' := by
  have h1 : 1 ≤ n := by omega
  refine callsIn_of_wp_marks Tryz.func54 rfl h54 ?_ hro
  simp only [Tryz.ntmps54, List.size_toArray, List.length_cons, List.length_nil, Nat.reduceAdd, Nat.reduceSub, Array.replicate_succ, Array.replicate_zero, List.push_toArray, List.append_toArray, List.nil_append, List.cons_append]
  gi_wp2_with (gi_at_call 51; refine (below_in F (n - 1) h51 hro _ _ _).mono ?_; rintro e w' ⟨rfl, rfl⟩)
  have c0 := cellN w (.int .i64 0) 3
  have c1 := cellN (w.alloc (.cells #[.int .i64 0] 3)) (.int .i64 x) 3
  have c2 := cellN ((w.alloc (.cells #[.int .i64 0] 3)).alloc (.cells #[.int .i64 x] 3)) (.int .i64 m) 3
  simp only [World.size_alloc] at c1 c2
  have hB0 : Below w.heap.size w (((w.alloc (.cells #[.int .i64 0] 3)).alloc (.cells #[.int .i64 x] 3)).alloc (.cells #[.int .i64 m] 3)) := (((Below.refl _ w).alloc (Nat.le_refl _) _).alloc (by simp) _).alloc (by simp; omega) _
  refine wpIn_rangeFunc_ownF hro h1 (gf := 92) (lb := #[.pointer (some ⟨w.heap.size + 1 + 1, 0, none⟩), .pointer (some ⟨w.heap.size + 1, 0, none⟩)]) rfl h92 (enters_of Tryz.func92 (by kernel_rfl) rfl)
    (below_stops F (n - 1) h92 h27 h61 hro (by omega) (w.heap.size + 1 + 1) (w.heap.size + 1) m x _ (by simp) c2.1 (cellA _ c1.1)) KeepC.trans keepC_b (Below.refl _ _) (fun _ => rfl)
    (fun pre W => ((∀ y ∈ pre, y.2 = true) ∧ W.cell? ⟨w.heap.size, 0, none⟩ = some (.int .i64 0) ∧ W.frozen? ⟨w.heap.size, 0, none⟩ = false) ∧ Below w.heap.size w W)
    (fun c pre W => (c = .ret ∧ ∃ q y, pre = q ++ [y] ∧ (∀ z ∈ q, z.2 = true) ∧ y.2 = false ∧ W.cell? ⟨w.heap.size, 0, none⟩ = some (.int .i64 (y.1 : Int))) ∧ Below w.heap.size w W)
    (OwnFrom.and (Own.from (fun s A B row hs hg hr => ⟨hs.1, cell_kept hs.2.1 hg hr, (frozen_kept hs.2.1 hg hr).trans hs.2.2⟩) _) (ownFrom_below (Nat.le_refl _) (by simp; omega)))
    (fun c => OwnFrom.and (Own.from (fun s A B row hs hg hr => by obtain ⟨hc, q, y, e1, e2, e3, e4⟩ := hs; exact ⟨hc, q, y, e1, e2, e3, cell_kept e4 hg hr⟩) _) (ownFrom_below (Nat.le_refl _) (by simp; omega)))
    ⟨⟨by simp, cellA _ (cellA _ c0.1), frozenA _ (cellA _ c0.1) (frozenA _ c0.1 c0.2)⟩, hB0⟩
    (fun y => { tmps := #[.int .i64 x, .int .i64 m, undef, undef, .pointer (some ⟨w.heap.size, 0, none⟩), .int .i64 (y.1 : Int), .bool y.2, .int .i64 x, .int .i64 m, .func (.func 92) #[] #[.pointer (some ⟨w.heap.size + 1 + 1, 0, none⟩), .pointer (some ⟨w.heap.size + 1, 0, none⟩)], .int .i64 (y.1 : Int), .bool y.2, undef, undef, undef], defers := [] }) ?assign ?body ?done ?stop
  case assign =>
    intro l y W K hK
    gi_wp2
    exact hK
  case body =>
    rintro l pre y W ⟨⟨hp, hcr, hfr⟩, hB⟩ _
    gi_wp2
    · rename_i hy
      refine ⟨KeepsOthers.setCell _ _ _, ⟨rfl, pre, y, rfl, hp, by simpa using hy, World.cell?_setCell_same' _ _ _ (by rw [hcr]; rfl)⟩, hB.setCell (p := ⟨w.heap.size, 0, none⟩) (by simp) _⟩
    · rename_i hy
      exact ⟨KeepsOthers.refl _, KeepC.refl _ _, ⟨fun z hz => (List.mem_append.1 hz).elim (hp z) (fun e => by simp at e; subst e; simpa using hy), hcr, hfr⟩, hB⟩
  case done =>
    rintro D ys W hD rfl ⟨⟨hp, hcr, hfr⟩, hB⟩ hK
    gi_wp2
    have hK' := (KeepsOthers.setCell W ⟨w.heap.size, 0, none⟩ (.int .i64 (-1))).same D _ hK rfl
    refine ⟨by simp, .inl ⟨_, _, rfl, run_takeDeferred hK', ?_⟩⟩
    have hc5 := cell_kept (World.cell?_setCell_same' W ⟨w.heap.size, 0, none⟩ (.int .i64 (-1)) (by rw [hcr]; rfl)) (grownBy_putObj' _ D (.deferred none)) (fun r e => by cases e; exact ⟨_, hK', rfl⟩)
    refine ⟨.int .i64 (-1), ?_, by rw [firstZ_none (fun i hi => hp _ (List.mem_map.2 ⟨i, by simpa using hi, rfl⟩))], (hB.setCell (p := ⟨w.heap.size, 0, none⟩) (by simp) _).trans (belowK_b (w := w) (Nat.le_refl _) _ D _ _ (by simp at hD; omega) hK' rfl rfl)⟩
    simp [results, Tryz.f54, go_sem, hc5]
  case stop =>
    rintro D c pre W hD ⟨k, hk, hpre⟩ ⟨⟨rfl, q, y, e1, e2, e3, hcr⟩, hB⟩ hK
    gi_wp2
    refine ⟨by simp, .inl ⟨_, _, rfl, run_takeDeferred hK, ?_⟩⟩
    have hc5 := cell_kept hcr (grownBy_putObj' _ D (.deferred none)) (fun r e => by cases e; exact ⟨_, hK, rfl⟩)
    have hq : q = upTo x k ∧ y = (k, hasB x k) := by
      rw [upTo_succ] at hpre
      have := List.append_inj' (e1.symm.trans hpre) rfl
      exact ⟨this.1, by simpa using this.2⟩
    obtain ⟨rfl, rfl⟩ := hq
    refine ⟨.int .i64 (k : Int), ?_, by rw [firstZ_some hk (fun i hi => e2 _ (List.mem_map.2 ⟨i, by simpa using hi, rfl⟩)) e3], hB.trans (belowK_b (w := w) (Nat.le_refl _) W D _ _ (by simp at hD; omega) hK rfl rfl)⟩
    simp [results, Tryz.f54, go_sem, hc5]
def onesP (ps : List (Nat × Bool)) : Int := List.foldl (fun s p => bif p.2 then wrap64 (s + 1) else s) 0 ps
theorem onesP_snoc (pre : List (Nat × Bool)) (y : Nat × Bool) : onesP (pre ++ [y]) = bif y.2 then wrap64 (onesP pre + 1) else onesP pre := by simp [onesP]
def countZ (x m : Int) : Int := onesP (upTo x (rounds m))
set_option maxRecDepth 100000 in
set_option maxHeartbeats 2000000 in
theorem Count_in (F : Fence) (n : Nat) (h21 : F.fn 21) (h51 : F.fn 51) (h92 : F.fn 92) (h27 : F.fn 27) (h61 : F.fn 61) (hro : F.round = none) (hn : 4 ≤ n) (x m : Int) (w : World) :
    CallsIn F n Tryz.prog 21 #[.int .i64 x, .int .i64 m] w fun e W' => e = .returned (.int .i64 (countZ x m)) ∧ Below w.heap.size w W' := by
  have h1 : 1 ≤ n := by omega
  refine callsIn_of_wp_marks Tryz.func21 rfl h21 ?_ hro
  simp only [Tryz.ntmps21, List.size_toArray, List.length_cons, List.length_nil, Nat.reduceAdd, Nat.reduceSub, Array.replicate_succ, Array.replicate_zero, List.push_toArray, List.append_toArray, List.nil_append, List.cons_append]
  gi_wp2_with (gi_at_call 51; refine (below_in F (n - 1) h51 hro _ _ _).mono ?_; rintro e w' ⟨rfl, rfl⟩)
  have c0 := cellN w (.int .i64 0) 3
  have c1 := cellN (w.alloc (.cells #[.int .i64 0] 3)) (.int .i64 x) 3
  have c2 := cellN ((w.alloc (.cells #[.int .i64 0] 3)).alloc (.cells #[.int .i64 x] 3)) (.int .i64 m) 3
  simp only [World.size_alloc] at c1 c2
  have hB0 : Below w.heap.size w (((w.alloc (.cells #[.int .i64 0] 3)).alloc (.cells #[.int .i64 x] 3)).alloc (.cells #[.int .i64 m] 3)) := (((Below.refl _ w).alloc (Nat.le_refl _) _).alloc (by simp) _).alloc (by simp; omega) _
  refine wpIn_rangeFunc_ownF hro h1 (gf := 92) (lb := #[.pointer (some ⟨w.heap.size + 1 + 1, 0, none⟩), .pointer (some ⟨w.heap.size + 1, 0, none⟩)]) rfl h92 (enters_of Tryz.func92 (by kernel_rfl) rfl)
    (below_stops F (n - 1) h92 h27 h61 hro (by omega) (w.heap.size + 1 + 1) (w.heap.size + 1) m x _ (by simp) c2.1 (cellA _ c1.1)) KeepC.trans keepC_b (Below.refl _ _) (fun _ => rfl)
    (fun pre W => (W.cell? ⟨w.heap.size, 0, none⟩ = some (.int .i64 (onesP pre)) ∧ W.frozen? ⟨w.heap.size, 0, none⟩ = false) ∧ Below w.heap.size w W)
    (fun _ _ _ => False)
    (OwnFrom.and (Own.from (fun s A B row hs hg hr => ⟨cell_kept hs.1 hg hr, (frozen_kept hs.1 hg hr).trans hs.2⟩) _) (ownFrom_below (Nat.le_refl _) (by simp; omega)))
    (fun _ _ _ _ _ hs _ _ => hs)
    ⟨⟨cellA _ (cellA _ c0.1), frozenA _ (cellA _ c0.1) (frozenA _ c0.1 c0.2)⟩, hB0⟩
    (fun y => { tmps := #[.int .i64 x, .int .i64 m, undef, undef, .int .i64 0, .pointer (some ⟨w.heap.size, 0, none⟩), undef, .bool y.2, .int .i64 x, .int .i64 m, .func (.func 92) #[] #[.pointer (some ⟨w.heap.size + 1 + 1, 0, none⟩), .pointer (some ⟨w.heap.size + 1, 0, none⟩)], .int .i64 (y.1 : Int), .bool y.2, undef, undef, undef, undef], defers := [] }) ?assign ?body ?done ?stop
  case assign =>
    intro l y W K hK
    gi_wp2
    exact hK
  case body =>
    rintro l pre ⟨y1, y2⟩ W ⟨⟨hcr, hfr⟩, hB⟩ _
    cases y2 with
    | true =>
      gi_wp2
      exact ⟨KeepsOthers.setCell _ _ _, fun v hv => (World.cell?_setCell_other W ⟨w.heap.size, 0, none⟩ ⟨w.heap.size + 1, 0, none⟩ _ (by simp)).trans hv, ⟨by rw [onesP_snoc]; exact World.cell?_setCell_same' _ _ _ (by rw [hcr]; rfl), by rw [World.frozen?_setCell]; exact hfr⟩, hB.setCell (p := ⟨w.heap.size, 0, none⟩) (by simp) _⟩
    | false =>
      gi_wp2
      exact ⟨KeepsOthers.refl _, KeepC.refl _ _, ⟨by rw [onesP_snoc]; exact hcr, hfr⟩, hB⟩
  case done =>
    rintro D ys W hD rfl ⟨⟨hcr, hfr⟩, hB⟩ hK
    gi_wp2
    refine ⟨by simp, .inl ⟨_, _, rfl, run_takeDeferred hK, ?_⟩⟩
    exact ⟨_, results_tmp rfl _ _ _, rfl, hB.trans (belowK_b (w := w) (Nat.le_refl _) W D _ _ (by simp at hD; omega) hK rfl rfl)⟩
  case stop =>
    rintro D c pre W _ _ h _
    exact h.elim
end Go.Proofs
end

section
namespace Go.Rx
open Go.Proofs
set_option maxRecDepth 100000
def y96 (m_ : Y14) (args : List V) (H : Heap) (K : V → Heap → Prop) : Prop :=
  aC args fun a0 r => aC r fun a1 r => aN r <| aInt a0 fun w => aInt a1 fun n => aN H <| So (m_ w n) fun x => K (vi (x)) []
def ydi (m_ : Y14) : Spec := ⟨y96 m_, (true : Bool)⟩
noncomputable def y3a (w : Int) (n : Int) : Option (Int) := some (firstZ w n)
theorem ygw : SpecOK Tryz.prog elTT 54 (ydi y3a) := by
  refine ⟨⟨_, Tryz.func54, by kernel_rfl, by kernel_rfl⟩, fun args H K h ρ F w vals hd hs => ?_⟩
  change y96 y3a args H K at h
  unfold y96 at h
  replace h := aC_el h
  obtain ⟨a0, _, rfl, h⟩ := h
  replace h := aC_el h
  obtain ⟨a1, _, rfl, h⟩ := h
  replace h := aN_el h
  obtain ⟨rfl, h⟩ := h
  replace h := aInt_el h
  obtain ⟨x, rfl, h⟩ := h
  replace h := aInt_el h
  obtain ⟨m, rfl, h⟩ := h
  replace h := aN_el h
  obtain ⟨rfl, h⟩ := h
  obtain rfl : vals = [.int .i64 x, .int .i64 m] := by simpa [denL, vi, V.den] using hd.symm
  refine ((callsIn_wide (n := 4)).1 (First_in Fence.wide 4 trivial trivial trivial trivial trivial rfl (by decide) x m w)).mono ?_
  rintro e w' ⟨rfl, hB⟩
  exact ⟨vi (firstZ x m), _, ρ, F, [], rfl, h, .inr rfl, Le.refl _, ⟨hs.len, fun i c y hc => by simp at hc, fun i c hc => by simp at hc, fun i j bi bj hc => by simp at hc⟩,
    ⟨hB.os, hB.tape, hB.output, hB.size, fun k hk _ => hB.block k hk, fun i b hb => by simp at hb, fun i b hb => by simp at hb⟩⟩
def y67 (m_ : Y14) (args : List V) (H : Heap) (K : V → Heap → Prop) : Prop :=
  aC args fun a0 r => aC r fun a1 r => aN r <| aInt a0 fun w => aInt a1 fun n => aN H <| So (m_ w n) fun x => K (vi (x)) []
def yc5 (m_ : Y14) : Spec := ⟨y67 m_, (true : Bool)⟩
noncomputable def y0r (w : Int) (n : Int) : Option (Int) := some (countZ w n)
theorem ygu : SpecOK Tryz.prog elTT 21 (yc5 y0r) := by
  refine ⟨⟨_, Tryz.func21, by kernel_rfl, by kernel_rfl⟩, fun args H K h ρ F w vals hd hs => ?_⟩
  change y67 y0r args H K at h
  unfold y67 at h
  replace h := aC_el h
  obtain ⟨a0, _, rfl, h⟩ := h
  replace h := aC_el h
  obtain ⟨a1, _, rfl, h⟩ := h
  replace h := aN_el h
  obtain ⟨rfl, h⟩ := h
  replace h := aInt_el h
  obtain ⟨x, rfl, h⟩ := h
  replace h := aInt_el h
  obtain ⟨m, rfl, h⟩ := h
  replace h := aN_el h
  obtain ⟨rfl, h⟩ := h
  obtain rfl : vals = [.int .i64 x, .int .i64 m] := by simpa [denL, vi, V.den] using hd.symm
  refine ((callsIn_wide (n := 4)).1 (Count_in Fence.wide 4 trivial trivial trivial trivial trivial rfl (by decide) x m w)).mono ?_
  rintro e w' ⟨rfl, hB⟩
  exact ⟨vi (countZ x m), _, ρ, F, [], rfl, h, .inr rfl, Le.refl _, ⟨hs.len, fun i c y hc => by simp at hc, fun i c hc => by simp at hc, fun i j bi bj hc => by simp at hc⟩,
    ⟨hB.os, hB.tape, hB.output, hB.size, fun k hk _ => hB.block k hk, fun i b hb => by simp at hb, fun i b hb => by simp at hb⟩⟩
end Go.Rx
end

section
namespace Go.Rx
theorem loopO_ind {σ ρ : Type} {step : σ → Option (σ ⊕ ρ)} (I : σ → Prop) (μ : σ → Nat) (Q : ρ → Prop)
    (h : ∀ s, I s → (∃ s', step s = some (.inl s') ∧ I s' ∧ μ s' < μ s) ∨ (∃ r, step s = some (.inr r) ∧ Q r)) (s : σ) (hs : I s) : ∃ r, loopO step s = some r ∧ Q r := by
  have key : ∀ n s, I s → μ s ≤ n → ∃ r, loopO step s = some r ∧ Q r := by
    intro n
    induction n with
    | zero =>
      intro s hs hm
      rcases h s hs with ⟨s', h1, h2, h3⟩ | ⟨r, h1, h2⟩
      · omega
      · exact ⟨r, loopO_end h1, h2⟩
    | succ n ih =>
      intro s hs hm
      rcases h s hs with ⟨s', h1, h2, h3⟩ | ⟨r, h1, h2⟩
      · rw [loopO_go h1]; exact ih s' h2 (by omega)
      · exact ⟨r, loopO_end h1, h2⟩
  exact key _ s hs (Nat.le_refl _)
theorem loopO_fun {σ ρ : Type} {step : σ → Option (σ ⊕ ρ)} (I : σ → Prop) (μ : σ → Nat) (f : σ → ρ)
    (h : ∀ s, I s → (∃ s', step s = some (.inl s') ∧ I s' ∧ μ s' < μ s ∧ f s' = f s) ∨ step s = some (.inr (f s))) (s : σ) (hs : I s) : loopO step s = some (f s) := by
  obtain ⟨r, h1, h2⟩ := loopO_ind (step := step) (fun t => I t ∧ f t = f s) μ (fun r => r = f s) (fun t ht => by
    rcases h t ht.1 with ⟨s', h1, h2, h3, h4⟩ | h1
    · exact .inl ⟨s', h1, ⟨h2, h4.trans ht.2⟩, h3⟩
    · exact .inr ⟨_, h1, ht.2⟩) s ⟨hs, rfl⟩
  rw [h1, h2]
structure Inv (P : Int → Prop) (w : List Int) : Prop where
  nd : w.Nodup
  all : ∀ x ∈ w, P x
theorem Inv.push {P P' : Int → Prop} {w : List Int} {e : Int} (h : Inv P w) (he : ¬ P e) (h1 : ∀ x, P x → P' x) (h2 : P' e) : Inv P' (w ++ [e]) := by
  refine ⟨List.nodup_append.2 ⟨h.nd, by simp, ?_⟩, fun x hx => ?_⟩
  · intro a ha b hb hab
    simp at hb
    subst hb; subst hab
    exact he (h.all _ ha)
  · rcases List.mem_append.1 hx with hx | hx
    · exact h1 x (h.all x hx)
    · simp at hx; subst hx; exact h2
theorem Inv.mono {P P' : Int → Prop} {w : List Int} (h : Inv P w) (h1 : ∀ x, P x → P' x) : Inv P' w := ⟨h.nd, fun x hx => h1 x (h.all x hx)⟩
theorem nodupN_len : ∀ {n : Nat} {l : List Nat}, l.Nodup → (∀ x ∈ l, x < n) → l.length ≤ n
  | 0, l, _, hb => by
    cases l with
    | nil => simp
    | cons x r => have := hb x (by simp); omega
  | n + 1, l, h, hb => by
    by_cases hn : n ∈ l
    · have h1 := h.erase n
      have h2 : ∀ x ∈ l.erase n, x < n := fun x hx => by
        have := (h.mem_erase_iff).1 hx
        have := hb x this.2
        omega
      have := nodupN_len h1 h2
      rw [List.length_erase_of_mem hn] at this
      omega
    · have := nodupN_len h (n := n) (fun x hx => by
        have := hb x hx
        have : x ≠ n := fun e => hn (e ▸ hx)
        omega)
      omega
theorem nodupI_len {N : Nat} {w : List Int} (h : w.Nodup) (hb : ∀ x ∈ w, 0 ≤ x ∧ x < (N : Int)) : w.length ≤ N := by
  have h1 : (w.map Int.toNat).Nodup := by
    refine List.pairwise_map.2 (List.Pairwise.imp_of_mem (fun {a b} ha hb' hab => ?_) h)
    have := hb a ha; have := hb b hb'; omega
  have h3 := nodupN_len h1 (n := N) (fun x hx => by
    obtain ⟨y, hy, rfl⟩ := List.mem_map.1 hx
    have := hb y hy
    omega)
  simpa using h3
theorem Inv.len {P : Int → Prop} {w : List Int} {N : Int} (h : Inv P w) (hP : ∀ x, P x → 0 ≤ x ∧ x < N) (hN : 0 ≤ N) : (w.length : Int) ≤ N := by
  have := nodupI_len (N := N.toNat) h.nd (fun x hx => by have := hP x (h.all x hx); omega)
  omega
end Go.Rx
end

section
namespace Go.Rx
open Go.Proofs
def bitI (m : Nat) (i : Int) : Bool := decide (0 ≤ i ∧ i < 32) && m.testBit i.toNat
theorem add_bit {m i : Nat} (h : m.testBit i = false) (j : Nat) : (m + 2 ^ i).testBit j = (m.testBit j || decide (i = j)) := by
  have e : m = 2 ^ (i + 1) * (m / 2 ^ (i + 1)) + m % 2 ^ (i + 1) := (Nat.div_add_mod m (2 ^ (i + 1))).symm
  have hr : m % 2 ^ (i + 1) < 2 ^ i := by
    have hb : (m % 2 ^ (i + 1)).testBit i = false := by rw [Nat.testBit_mod_two_pow]; simp [h]
    have hlt : m % 2 ^ (i + 1) < 2 ^ (i + 1) := Nat.mod_lt _ (Nat.two_pow_pos _)
    refine Nat.lt_of_not_le fun hle => ?_
    have h2 : (2 ^ i + (m % 2 ^ (i + 1) - 2 ^ i)).testBit i = !(m % 2 ^ (i + 1) - 2 ^ i).testBit i := Nat.testBit_two_pow_add_eq _ _
    rw [show 2 ^ i + (m % 2 ^ (i + 1) - 2 ^ i) = m % 2 ^ (i + 1) by omega, hb] at h2
    have h3 : (m % 2 ^ (i + 1) - 2 ^ i).testBit i = false := Nat.testBit_lt_two_pow (by rw [Nat.pow_succ] at hlt; omega)
    rw [h3] at h2
    cases h2
  generalize m / 2 ^ (i + 1) = q at *
  generalize hrr : m % 2 ^ (i + 1) = r at *
  have hp : 2 ^ (i + 1) = 2 ^ i + 2 ^ i := by rw [Nat.pow_succ]; omega
  have e2 : m + 2 ^ i = 2 ^ (i + 1) * q + (2 ^ i + r) := by omega
  rw [e2]
  conv => rhs; rw [e]
  rw [Nat.testBit_two_pow_mul_add q (by omega) j, Nat.testBit_two_pow_mul_add q (by omega) j]
  by_cases hj : j < i + 1
  · rw [if_pos hj, if_pos hj]
    by_cases hi : j = i
    · subst hi
      rw [Nat.testBit_two_pow_add_eq, Nat.testBit_lt_two_pow hr]
      simp
    · rw [Nat.testBit_two_pow_add_gt (by omega)]
      simp [show ¬ i = j from fun e => hi e.symm]
  · rw [if_neg hj, if_neg hj]
    simp [show ¬ i = j by omega]
theorem or_bit {m i : Nat} (h : m.testBit i = false) : m ||| 2 ^ i = m + 2 ^ i := by
  refine Nat.eq_of_testBit_eq fun j => ?_
  rw [add_bit h, Nat.testBit_or, Nat.testBit_two_pow]
theorem sub_bit {m i : Nat} (h : m.testBit i = true) : 2 ^ i ≤ m ∧ (m - 2 ^ i).testBit i = false := by
  have hle : 2 ^ i ≤ m := by
    refine Nat.le_of_not_lt fun hlt => ?_
    rw [Nat.testBit_lt_two_pow hlt] at h
    cases h
  refine ⟨hle, ?_⟩
  have h2 : (2 ^ i + (m - 2 ^ i)).testBit i = !(m - 2 ^ i).testBit i := Nat.testBit_two_pow_add_eq _ _
  rw [show 2 ^ i + (m - 2 ^ i) = m by omega, h] at h2
  cases hb : (m - 2 ^ i).testBit i with
  | false => rfl
  | true => rw [hb] at h2; cases h2
theorem sub_bits {m i : Nat} (h : m.testBit i = true) (j : Nat) : (m - 2 ^ i).testBit j = (m.testBit j && !decide (i = j)) := by
  obtain ⟨h1, h2⟩ := sub_bit h
  have := add_bit h2 j
  rw [show m - 2 ^ i + 2 ^ i = m by omega] at this
  rw [this]
  by_cases hj : i = j
  · subst hj; simp [h2]
  · simp [hj]
theorem ofI_nat {m : Nat} (h : m < 18446744073709551616) : (BitVec.ofInt 64 (m : Int)).toNat = m := by
  rw [BitVec.ofInt_natCast, BitVec.toNat_ofNat]
  exact Nat.mod_eq_of_lt h
theorem wrap_nat {m : Nat} (h : m < 9223372036854775808) : IntKind.wrap .i64 (m : Int) = m := wrap_id (by omega) (by omega)
theorem bits_and_nat {m n : Nat} (hm : m < 4294967296) (hn : n < 4294967296) : bits .and .i64 m n = ((m &&& n : Nat) : Int) := by
  show IntKind.wrap .i64 (((BitVec.ofInt 64 (m : Int)) &&& (BitVec.ofInt 64 (n : Int))).toNat : Int) = _
  rw [BitVec.toNat_and, ofI_nat (by omega), ofI_nat (by omega)]
  have := Nat.and_le_left (n := m) (m := n)
  exact wrap_nat (by omega)
theorem bits_or_nat {m n : Nat} (hm : m < 4294967296) (hn : n < 4294967296) : bits .or .i64 m n = ((m ||| n : Nat) : Int) := by
  show IntKind.wrap .i64 (((BitVec.ofInt 64 (m : Int)) ||| (BitVec.ofInt 64 (n : Int))).toNat : Int) = _
  rw [BitVec.toNat_or, ofI_nat (by omega), ofI_nat (by omega)]
  have : m ||| n < 2 ^ 32 := Nat.or_lt_two_pow (by omega) (by omega)
  exact wrap_nat (by omega)
theorem bits_not_nat {m i : Nat} (hm : m < 4294967296) (hi : i < 32) (h : m.testBit i = true) : bits .andNot .i64 m ((2 ^ i : Nat) : Int) = ((m - 2 ^ i : Nat) : Int) := by
  have hp : 2 ^ i < 4294967296 := by
    have : (2 : Nat) ^ i ≤ 2 ^ 31 := Nat.pow_le_pow_right (by decide) (by omega)
    omega
  show IntKind.wrap .i64 (((BitVec.ofInt 64 (m : Int)) &&& ~~~(BitVec.ofInt 64 ((2 ^ i : Nat) : Int))).toNat : Int) = _
  have e : ((BitVec.ofInt 64 (m : Int)) &&& ~~~(BitVec.ofInt 64 ((2 ^ i : Nat) : Int))).toNat = m - 2 ^ i := by
    refine Nat.eq_of_testBit_eq fun j => ?_
    rw [sub_bits h, BitVec.toNat_and, Nat.testBit_and, ofI_nat (by omega), BitVec.toNat_not, ofI_nat (by omega)]
    by_cases hj : j < 64
    · have : (2 ^ 64 - 1 - 2 ^ i).testBit j = !(2 ^ i).testBit j := by
        have := Nat.testBit_two_pow_sub_succ (x := 2 ^ i) (n := 64) (by omega) j
        rw [show 2 ^ 64 - 1 - 2 ^ i = 2 ^ 64 - (2 ^ i + 1) by omega, this]
        simp [hj]
      rw [this, Nat.testBit_two_pow]
    · have : m.testBit j = false := Nat.testBit_lt_two_pow (Nat.lt_of_lt_of_le hm (Nat.le_trans (by decide : 4294967296 ≤ 2 ^ 64) (Nat.pow_le_pow_right (by decide) (by omega))))
      rw [this]; rfl
  rw [e]
  exact wrap_nat (Nat.lt_of_le_of_lt (Nat.sub_le _ _) (by omega))
theorem two_lt {i : Nat} (h : i < 32) : 2 ^ i < 4294967296 := by
  have : (2 : Nat) ^ i ≤ 2 ^ 31 := Nat.pow_le_pow_right (by decide) (by omega)
  omega
theorem mask_eq (i : Int) : y0e i = some (maskI i) := by
  unfold y0e maskI
  by_cases h1 : i < 0
  · rw [decide_eq_true h1, if_pos (.inl h1)]; rfl
  · by_cases h2 : 32 ≤ i
    · rw [decide_eq_false h1, decide_eq_true (show i ≥ 32 from h2), if_pos (.inr h2)]; rfl
    · rw [decide_eq_false h1, decide_eq_false (show ¬ i ≥ 32 from h2), decide_eq_true (show 0 ≤ i by omega), if_neg (by omega)]
      have hb : IntKind.bits .i64 = 64 := rfl
      rw [hb, show Min.min i.toNat 64 = i.toNat by omega, Int.one_mul]
      have hp := two_lt (i := i.toNat) (by omega)
      have : IntKind.wrap .i64 (2 ^ i.toNat) = 2 ^ i.toNat := by
        rw [show (2 : Int) ^ i.toNat = ((2 ^ i.toNat : Nat) : Int) by simp]
        exact wrap_nat (by omega)
      simp only [cond_false, cond_true, this]
theorem maskI_in {i : Int} (h : 0 ≤ i ∧ i < 32) : maskI i = ((2 ^ i.toNat : Nat) : Int) := by
  unfold maskI; rw [if_neg (by omega)]; simp
theorem hasB_eq {m : Nat} (hm : m < 4294967296) (i : Int) : hasB (m : Int) i = bitI m i := by
  unfold hasB bitI
  by_cases h : 0 ≤ i ∧ i < 32
  · rw [maskI_in h, bits_and_nat hm (two_lt (by omega)), decide_eq_true h, Bool.true_and]
    have hj : ∀ j, (m &&& 2 ^ i.toNat).testBit j = (m.testBit j && decide (i.toNat = j)) := fun j => by rw [Nat.testBit_and, Nat.testBit_two_pow]
    cases hb : m.testBit i.toNat with
    | true =>
      have h1 := hj i.toNat
      rw [hb] at h1
      have : m &&& 2 ^ i.toNat ≠ 0 := fun e => by rw [e] at h1; simp at h1
      simp only [bne_iff_ne, ne_eq]
      omega
    | false =>
      have : m &&& 2 ^ i.toNat = 0 := Nat.eq_of_testBit_eq fun j => by
        rw [hj j]
        by_cases e : i.toNat = j
        · rw [← e, hb]; simp
        · simp [e]
      rw [this]; rfl
  · have e : maskI i = ((0 : Nat) : Int) := by unfold maskI; rw [if_pos (by omega)]; rfl
    rw [e, bits_and_nat hm (by decide), decide_eq_false h]
    simp
theorem Has_eq {m : Nat} (hm : m < 4294967296) (i : Int) : y1t (m : Int) i = some (bitI m i) := by
  unfold y1t
  rw [mask_eq, Option.bind_some]
  exact congrArg some (hasB_eq hm i)
theorem Set_eq {m : Nat} (hm : m < 4294967296) {i : Int} (hi : 0 ≤ i ∧ i < 32) (h : m.testBit i.toNat = false) : y1v (m : Int) i = some ((m + 2 ^ i.toNat : Nat) : Int) := by
  unfold y1v
  rw [mask_eq, Option.bind_some, maskI_in hi, bits_or_nat hm (two_lt (by omega)), or_bit h]
theorem Clear_eq {m : Nat} (hm : m < 4294967296) {i : Int} (hi : 0 ≤ i ∧ i < 32) (h : m.testBit i.toNat = true) : y1y (m : Int) i = some ((m - 2 ^ i.toNat : Nat) : Int) := by
  unfold y1y
  rw [mask_eq, Option.bind_some, maskI_in hi, bits_not_nat hm (by omega) h]
theorem halves_eq {m : Nat} (hm : m < 4294967296) : ∀ k : Nat, halves (IntKind.wrap .u64 (m : Int)) k = ((m / 2 ^ k : Nat) : Int) := by
  intro k
  induction k with
  | zero => show IntKind.wrap .u64 (m : Int) = _; rw [show IntKind.wrap .u64 (m : Int) = (m : Int) % 18446744073709551616 from rfl]; simp; omega
  | succ k ih =>
    show IntKind.wrap .u64 (Int.tdiv (halves (IntKind.wrap .u64 (m : Int)) k) 2) = _
    rw [ih]
    have h1 : m / 2 ^ k ≤ m := Nat.div_le_self _ _
    rw [show Int.tdiv ((m / 2 ^ k : Nat) : Int) 2 = ((m / 2 ^ k / 2 : Nat) : Int) from rfl, Nat.div_div_eq_div_mul, ← Nat.pow_succ]
    have h2 : m / 2 ^ (k + 1) ≤ m := Nat.div_le_self _ _
    generalize m / 2 ^ (k + 1) = q at *
    rw [show IntKind.wrap .u64 (q : Int) = (q : Int) % 18446744073709551616 from rfl]
    omega
theorem doubles_eq : ∀ k : Nat, k < 64 → doubles 1 k = ((2 ^ k : Nat) : Int) := by
  intro k
  induction k with
  | zero => intro _; rfl
  | succ k ih =>
    intro h
    show IntKind.wrap .u64 (doubles 1 k * 2) = _
    rw [ih (by omega)]
    have : (2 : Nat) ^ (k + 1) ≤ 2 ^ 63 := Nat.pow_le_pow_right (by decide) (by omega)
    rw [show ((2 ^ k : Nat) : Int) * 2 = ((2 ^ (k + 1) : Nat) : Int) by rw [Nat.pow_succ]; simp]
    generalize 2 ^ (k + 1) = q at *
    rw [show IntKind.wrap .u64 (q : Int) = (q : Int) % 18446744073709551616 from rfl]
    omega
theorem rbits_eq (i : Int) : y5h i = some (decide (0 ≤ i ∧ i < 32)) := by
  unfold y5h
  by_cases h1 : 0 ≤ i
  · rw [decide_eq_true (show i ≥ 0 from h1)]
    simp [h1]
  · rw [decide_eq_false (show ¬ i ≥ 0 from h1)]
    simp [h1]
theorem rHas_eq {m : Nat} (hm : m < 4294967296) (i : Int) : y3y (m : Int) i = some (bitI m i) := by
  unfold y3y bitI
  rw [rbits_eq, Option.bind_some]
  by_cases h : 0 ≤ i ∧ i < 32
  · rw [decide_eq_true h, cond_true, Bool.true_and]
    unfold ybs
    rw [decide_eq_true (show i ≤ 64 by omega), cond_true, Option.bind_some, halves_eq hm, Nat.testBit_eq_decide_div_mod_eq]
    rw [show Int.tmod ((m / 2 ^ i.toNat : Nat) : Int) 2 = ((m / 2 ^ i.toNat % 2 : Nat) : Int) from rfl]
    refine congrArg some ?_
    rw [Bool.eq_iff_iff]
    simp only [beq_iff_eq, decide_eq_true_eq]
    omega
  · rw [decide_eq_false h]; rfl
theorem worth_eq {i : Int} (hi : 0 ≤ i ∧ i < 32) : y5p i = some ((2 ^ i.toNat : Nat) : Int) := by
  unfold y5p
  rw [decide_eq_true (show i ≤ 64 by omega), cond_true, doubles_eq _ (by omega)]
theorem wrap_u64 (x : Int) : IntKind.wrap .u64 x = x % 18446744073709551616 := rfl
theorem rSet_eq {m : Nat} (hm : m < 4294967296) {i : Int} (hi : 0 ≤ i ∧ i < 32) (h : m.testBit i.toNat = false) : y4n (m : Int) i = some ((m + 2 ^ i.toNat : Nat) : Int) := by
  unfold y4n
  have hb : bitI m i = false := by unfold bitI; rw [h]; simp
  rw [rbits_eq, Option.bind_some, decide_eq_true hi, Bool.not_true, cond_false, rHas_eq hm, Option.bind_some, hb, cond_false, worth_eq hi, Option.bind_some]
  have := two_lt (i := i.toNat) (by omega)
  generalize 2 ^ i.toNat = k at *
  simp only [wrap_u64]
  rw [show ((m : Int) % 18446744073709551616 + (k : Int)) % 18446744073709551616 = ((m + k : Nat) : Int) by omega, wrap_nat (by omega)]
theorem rClear_eq {m : Nat} (hm : m < 4294967296) {i : Int} (hi : 0 ≤ i ∧ i < 32) (h : m.testBit i.toNat = true) : y6l (m : Int) i = some ((m - 2 ^ i.toNat : Nat) : Int) := by
  unfold y6l
  have hb : bitI m i = true := by unfold bitI; rw [h, decide_eq_true hi]; rfl
  have hle := (sub_bit h).1
  rw [rHas_eq hm, Option.bind_some, hb, Bool.not_true, cond_false, worth_eq hi, Option.bind_some]
  have := two_lt (i := i.toNat) (by omega)
  generalize 2 ^ i.toNat = k at *
  simp only [wrap_u64]
  rw [show ((m : Int) % 18446744073709551616 - (k : Int)) % 18446744073709551616 = ((m - k : Nat) : Int) by omega, wrap_nat (by omega)]
def IsFirst (m n : Nat) (r : Int) : Prop := (r = -1 ∧ ∀ i, i < n → m.testBit i = true) ∨ (0 ≤ r ∧ r < n ∧ m.testBit r.toNat = false ∧ ∀ i : Nat, (i : Int) < r → m.testBit i = true)
theorem IsFirst.uniq {m n : Nat} {r s : Int} (h : IsFirst m n r) (k : IsFirst m n s) : r = s := by
  rcases h with ⟨h1, h2⟩ | ⟨h1, h2, h3, h4⟩ <;> rcases k with ⟨k1, k2⟩ | ⟨k1, k2, k3, k4⟩
  · rw [h1, k1]
  · rw [h2 s.toNat (by omega)] at k3; cases k3
  · rw [k2 r.toNat (by omega)] at h3; cases h3
  · rcases Int.lt_trichotomy r s with hlt | heq | hgt
    · rw [k4 r.toNat (by omega)] at h3; cases h3
    · exact heq
    · rw [h4 s.toNat (by omega)] at k3; cases k3
theorem bitI_nat {m i : Nat} (h : i < 32) : bitI m i = m.testBit i := by
  unfold bitI; rw [decide_eq_true (show (0 : Int) ≤ i ∧ (i : Int) < 32 by omega)]; simp
theorem all_or {m : Nat} : ∀ n : Nat, (∀ i, i < n → m.testBit i = true) ∨ ∃ k, k < n ∧ m.testBit k = false ∧ ∀ i, i < k → m.testBit i = true
  | 0 => .inl (fun i hi => by omega)
  | n + 1 => by
    rcases all_or (m := m) n with h | ⟨k, h1, h2, h3⟩
    · cases hb : m.testBit n with
      | true => exact .inl (fun i hi => by
          by_cases e : i = n
          · subst e; exact hb
          · exact h i (by omega))
      | false => exact .inr ⟨n, by omega, hb, h⟩
    · exact .inr ⟨k, by omega, h2, h3⟩
theorem rounds_eq {n : Nat} (h : n ≤ 32) : rounds (n : Int) = n := by unfold rounds; omega
theorem First_is {m n : Nat} (hm : m < 4294967296) (hn : n ≤ 32) : ∃ r, y3a (m : Int) (n : Int) = some r ∧ IsFirst m n r := by
  refine ⟨_, rfl, ?_⟩
  rcases all_or (m := m) n with h | ⟨k, h1, h2, h3⟩
  · refine .inl ⟨firstZ_none fun i hi => ?_, h⟩
    rw [rounds_eq hn] at hi
    rw [hasB_eq hm, bitI_nat (by omega)]
    exact h i hi
  · have e : firstZ (m : Int) (n : Int) = k := firstZ_some (by rw [rounds_eq hn]; exact h1) (fun i hi => by rw [hasB_eq hm, bitI_nat (by omega)]; exact h3 i hi) (by rw [hasB_eq hm, bitI_nat (by omega)]; exact h2)
    rw [e]
    exact .inr ⟨by omega, by omega, by simpa using h2, fun i hi => h3 i (by omega)⟩
theorem rFirst04_is {m n : Nat} (hm : m < 4294967296) (hn : n ≤ 32) : ∃ r, y55 (m : Int) (n : Int) = some r ∧ IsFirst m n r := by
  have key : ∀ d i : Nat, n - i = d → i ≤ n → (∀ j, j < i → m.testBit j = true) → ∃ r, yef (m : Int) (n : Int) (i : Int) = some r ∧ IsFirst m n r := by
    intro d
    induction d with
    | zero =>
      intro i hd hi hall
      refine ⟨-1, loopO_end ?_, .inl ⟨rfl, fun j hj => hall j (by omega)⟩⟩
      have e : i = n := by omega
      subst e
      simp only [y5d, decide_eq_false (show ¬ ((i : Int) < i) by omega), cond_false]
      cases decide ((i : Int) < 32) <;> rfl
    | succ d ih =>
      intro i hd hi hall
      have hlt : i < n := by omega
      have e : y5d (m : Int) (n : Int) (i : Int) = bif m.testBit i then some (.inl (IntKind.wrap .i64 ((i : Int) + 1))) else some (.inr (i : Int)) := by
        simp only [y5d, decide_eq_true (show (i : Int) < 32 by omega), decide_eq_true (show (i : Int) < n by omega), cond_true, rHas_eq hm, Option.bind_some, bitI_nat (show i < 32 by omega)]
        cases m.testBit i <;> rfl
      cases hb : m.testBit i with
      | false =>
        rw [hb] at e
        exact ⟨i, loopO_end e, .inr ⟨by omega, by omega, by simpa using hb, fun j hj => hall j (by omega)⟩⟩
      | true =>
        rw [hb] at e
        obtain ⟨r, h1, h2⟩ := ih (i + 1) (by omega) (by omega) (fun j hj => by
          by_cases ej : j = i
          · subst ej; exact hb
          · exact hall j (by omega))
        refine ⟨r, (loopO_go e).trans ?_, h2⟩
        rw [wrap_id (by omega) (by omega)]
        exact h1
  exact key n 0 rfl (by omega) (fun j hj => by omega)
def popN (m : Nat) : Nat → Nat
  | 0 => 0
  | k + 1 => popN m k + (m.testBit k).toNat
theorem popN_le (m : Nat) : ∀ k, popN m k ≤ k
  | 0 => Nat.le_refl _
  | k + 1 => by
    have := popN_le m k
    have := Bool.toNat_le (m.testBit k)
    simp only [popN]
    omega
theorem popN_all {m : Nat} : ∀ {k : Nat}, (∀ i, i < k → m.testBit i = true) → popN m k = k
  | 0, _ => rfl
  | k + 1, h => by
    simp only [popN]
    rw [popN_all (fun i hi => h i (by omega)), h k (by omega)]
    rfl
theorem popN_lt {m k i : Nat} (hi : i < k) (h : m.testBit i = false) : popN m k < k := by
  induction k with
  | zero => omega
  | succ k ih =>
    simp only [popN]
    have := popN_le m k
    by_cases e : i = k
    · subst e; rw [h]; simp; omega
    · have := ih (by omega)
      have := Bool.toNat_le (m.testBit k)
      omega
theorem popN_same {m n : Nat} : ∀ {k : Nat}, (∀ i, i < k → m.testBit i = n.testBit i) → popN m k = popN n k
  | 0, _ => rfl
  | k + 1, h => by
    simp only [popN]
    rw [popN_same (fun i hi => h i (by omega)), h k (by omega)]
theorem popN_add {m k i : Nat} (hi : i < k) (h : m.testBit i = false) : popN (m + 2 ^ i) k = popN m k + 1 := by
  induction k with
  | zero => omega
  | succ k ih =>
    simp only [popN]
    by_cases e : i = k
    · subst e
      rw [popN_same (n := m) (fun j hj => by rw [add_bit h]; simp [show ¬ i = j by omega]), add_bit h, h]
      simp
    · rw [ih (by omega), add_bit h, decide_eq_false e]
      simp
      omega
theorem popN_sub {m k i : Nat} (hi : i < k) (h : m.testBit i = true) : popN (m - 2 ^ i) k + 1 = popN m k := by
  obtain ⟨h1, h2⟩ := sub_bit h
  have := popN_add hi h2
  rw [show m - 2 ^ i + 2 ^ i = m by omega] at this
  omega
theorem popN_zero (k : Nat) : popN 0 k = 0 := by
  induction k with
  | zero => rfl
  | succ k ih => simp [popN, ih]
theorem wrap64_id {k : Nat} (h : k ≤ 32) : RowKit.wrap64 ((k : Int) + 1) = ((k + 1 : Nat) : Int) := by
  unfold RowKit.wrap64
  omega
theorem ones_step {q k : Nat} (h1 : q ≤ k) (h : k + 1 ≤ 32) (b : Bool) : (bif b then RowKit.wrap64 ((q : Int) + 1) else (q : Int)) = ((q + b.toNat : Nat) : Int) := by
  cases b with
  | true =>
    rw [cond_true, wrap64_id (show q ≤ 32 by omega)]
    rfl
  | false => rfl
theorem ones_has {m k : Nat} (hm : m < 4294967296) (h : k + 1 ≤ 32) : hasB (m : Int) (k : Int) = m.testBit k := (hasB_eq hm _).trans (bitI_nat (by omega))
theorem ones_zero (m : Int) : onesP (upTo m 0) = 0 := rfl
theorem ones_succ (m : Int) (k : Nat) : onesP (upTo m (k + 1)) = bif hasB m k then RowKit.wrap64 (onesP (upTo m k) + 1) else onesP (upTo m k) := by
  rw [upTo_succ, onesP_snoc]
theorem ones_eq {m : Nat} (hm : m < 4294967296) : ∀ k : Nat, k ≤ 32 → onesP (upTo (m : Int) k) = (popN m k : Int)
  | 0, _ => ones_zero _
  | k + 1, h => by
    rw [ones_succ, ones_eq hm k (by omega), ones_has hm h]
    exact ones_step (popN_le m k) h _
theorem Count_is {m n : Nat} (hm : m < 4294967296) (hn : n ≤ 32) : y0r (m : Int) (n : Int) = some (popN m n : Int) := by
  have h : countZ (m : Int) (n : Int) = (popN m n : Int) := by
    have e : countZ (m : Int) (n : Int) = onesP (upTo (m : Int) (rounds (n : Int))) := rfl
    rw [e, rounds_eq hn, ones_eq hm n hn]
  exact congrArg some h
theorem rCount_is {m n : Nat} (hm : m < 4294967296) (hn : n ≤ 32) : y99 (m : Int) (n : Int) = some (popN m n : Int) := by
  have key : ∀ d i : Nat, n - i = d → i ≤ n → ∀ l : List Int, l.length = popN m i → ∃ r, ybk (m : Int) (n : Int) ((i : Int), l) = some r ∧ r.length = popN m n := by
    intro d
    induction d with
    | zero =>
      intro i hd hi l hl
      have e : i = n := by omega
      subst e
      refine ⟨l, loopO_end ?_, hl⟩
      simp only [y5n, decide_eq_false (show ¬ ((i : Int) < i) by omega), cond_false]
      cases decide ((i : Int) < 32) <;> rfl
    | succ d ih =>
      intro i hd hi l hl
      have hlt : i < n := by omega
      have hle := popN_le m i
      have e : y5n (m : Int) (n : Int) (i : Int) l = bif m.testBit i then some (.inl (((i + 1 : Nat) : Int), l ++ [(i : Int)])) else some (.inl (((i + 1 : Nat) : Int), l)) := by
        simp only [y5n, decide_eq_true (show (i : Int) < 32 by omega), decide_eq_true (show (i : Int) < n by omega), cond_true, rHas_eq hm, Option.bind_some, bitI_nat (show i < 32 by omega), decide_eq_true (show l.length + 1 ≤ 1048576 by omega), wrap_id (x := (i : Int) + 1) (by omega) (by omega)]
        rfl
      cases hb : m.testBit i with
      | true =>
        rw [hb] at e
        obtain ⟨r, h1, h2⟩ := ih (i + 1) (by omega) (by omega) (l ++ [(i : Int)]) (by simp [popN, hb, hl])
        exact ⟨r, (loopO_go e).trans h1, h2⟩
      | false =>
        rw [hb] at e
        obtain ⟨r, h1, h2⟩ := ih (i + 1) (by omega) (by omega) l (by simp [popN, hb, hl])
        exact ⟨r, (loopO_go e).trans h1, h2⟩
  obtain ⟨r, h1, h2⟩ := key n 0 rfl (by omega) [] rfl
  show (y86 (m : Int) (n : Int)).bind _ = _
  rw [show y86 (m : Int) (n : Int) = some r from h1, Option.bind_some, h2]
end Go.Rx
end

section
namespace Go.Rx
def wd (w : List Int) (a : Int) : Int := w.getD a.toNat 0
def nxV (xs : List Int) (i : Nat) : Int := xs.getD i (-1) + 1
def pvV (xs : List Int) (i : Nat) : Int := (-1 :: xs).getD i (-1) + 1
theorem pvV_zero (xs : List Int) : pvV xs 0 = 0 := by simp [pvV]
theorem pvV_succ (xs : List Int) (i : Nat) : pvV xs (i + 1) = nxV xs i := by simp [pvV, nxV]
theorem nxV_end {xs : List Int} {i : Nat} (h : xs.length ≤ i) : nxV xs i = 0 := by simp [nxV, List.getD, h]
theorem nxV_at {xs : List Int} {i : Nat} (h : i < xs.length) : nxV xs i = xs.getD i 0 + 1 := by simp [nxV, List.getD, h]
theorem nxV_cons (x : Int) (xs : List Int) (i : Nat) : nxV (x :: xs) (i + 1) = nxV xs i := by simp [nxV]
theorem getD_mem {xs : List Int} {i : Nat} (h : i < xs.length) : xs.getD i 0 ∈ xs := by
  have : xs.getD i 0 = xs[i] := by simp [List.getD, h]
  rw [this]; exact List.getElem_mem h
theorem mem_getD {xs : List Int} {x : Int} (h : x ∈ xs) : ∃ i, i < xs.length ∧ xs.getD i 0 = x := by
  obtain ⟨i, hi, e⟩ := List.getElem_of_mem h
  exact ⟨i, hi, by simp [List.getD, hi, e]⟩
theorem nd_ne {xs : List Int} (h : xs.Nodup) {i j : Nat} (hi : i < xs.length) (hj : j < xs.length) (hij : i ≠ j) : xs.getD i 0 ≠ xs.getD j 0 := by
  intro e
  have e1 : xs.getD i 0 = xs[i] := by simp [List.getD, hi]
  have e2 : xs.getD j 0 = xs[j] := by simp [List.getD, hj]
  rw [e1, e2] at e
  exact hij ((List.getElem_inj h).1 e)
theorem wd_set {w : List Int} {a b x : Int} (ha : 0 ≤ a ∧ a < w.length) (hb : 0 ≤ b) : wd (w.set a.toNat x) b = if b = a then x else wd w b := by
  unfold wd
  by_cases e : b = a
  · rw [if_pos e, e, List.getD, List.getElem?_set_self (by omega)]; rfl
  · rw [if_neg e, List.getD, List.getD, List.getElem?_set_ne (by omega)]
theorem wd_ext {u w : List Int} (hl : u.length = w.length) (h : ∀ b : Int, 0 ≤ b → wd u b = wd w b) : u = w := by
  refine List.ext_getElem hl (fun i h1 h2 => ?_)
  have := h i (by omega)
  simpa [wd, List.getD, h1, h2] using this
structure Lst (nb pg : Int) (w : List Int) (h : Int) (xs : List Int) : Prop where
  head : wd w h = nxV xs 0
  inn : ∀ x ∈ xs, 0 ≤ x ∧ x < pg
  next : ∀ i, i < xs.length → wd w (nb + xs.getD i 0) = nxV xs (i + 1)
  prev : ∀ i, i < xs.length → wd w (nb + pg + xs.getD i 0) = pvV xs i
  nd : xs.Nodup
structure Off (nb pg : Int) (w u : List Int) (h : Int) (ys : List Int) : Prop where
  len : u.length = w.length
  off : ∀ b : Int, 0 ≤ b → b ≠ h → (∀ y ∈ ys, b ≠ nb + y ∧ b ≠ nb + pg + y) → wd u b = wd w b
structure Geo (nb pg : Int) (n : Nat) (h : Int) : Prop where
  base : 1 ≤ nb
  pages : 1 ≤ pg ∧ pg ≤ 256
  top : nb + 2 * pg ≤ h ∧ h < n
theorem Lst.len {nb pg h : Int} {w xs : List Int} (l : Lst nb pg w h xs) (hp : 0 ≤ pg) : (xs.length : Int) ≤ pg := by
  have := nodupI_len (N := pg.toNat) l.nd (fun x hx => by have := l.inn x hx; omega)
  omega
theorem nxV_pos {nb pg h : Int} {w xs : List Int} (l : Lst nb pg w h xs) (i : Nat) : 0 ≤ nxV xs i ∧ (nxV xs i = 0 ↔ xs.length ≤ i) := by
  by_cases c : i < xs.length
  · rw [nxV_at c]
    have := l.inn _ (getD_mem c)
    constructor
    · omega
    · constructor <;> intro _ <;> omega
  · rw [nxV_end (by omega)]
    exact ⟨by omega, ⟨fun _ => by omega, fun _ => rfl⟩⟩
theorem Lst.det {nb pg h : Int} {w u1 u2 xs ys : List Int} (l1 : Lst nb pg u1 h xs) (l2 : Lst nb pg u2 h xs) (o1 : Off nb pg w u1 h ys) (o2 : Off nb pg w u2 h ys)
    (e : ∀ y ∈ ys, y ∉ xs → wd u1 (nb + y) = wd u2 (nb + y) ∧ wd u1 (nb + pg + y) = wd u2 (nb + pg + y)) : u1 = u2 := by
  refine wd_ext (by rw [o1.len, o2.len]) (fun b hb => ?_)
  by_cases c : b = h
  · rw [c, l1.head, l2.head]
  by_cases d : ∀ y ∈ ys, b ≠ nb + y ∧ b ≠ nb + pg + y
  · rw [o1.off b hb c d, o2.off b hb c d]
  · have : ∃ y ∈ ys, b = nb + y ∨ b = nb + pg + y := by
      apply Classical.byContradiction
      intro hn
      exact d (fun y hy => ⟨fun e => hn ⟨y, hy, .inl e⟩, fun e => hn ⟨y, hy, .inr e⟩⟩)
    obtain ⟨y, hy, hb⟩ := this
    by_cases m : y ∈ xs
    · obtain ⟨i, hi, rfl⟩ := mem_getD m
      rcases hb with rfl | rfl
      · rw [l1.next i hi, l2.next i hi]
      · rw [l1.prev i hi, l2.prev i hi]
    · rcases hb with rfl | rfl
      · exact (e y hy m).1
      · exact (e y hy m).2
theorem Lst.keep {nb pg h k : Int} {w u xs ys : List Int} (hnb : 1 ≤ nb) (hpg : 0 ≤ pg) (l : Lst nb pg w k xs) (o : Off nb pg w u h ys) (hy : ∀ y ∈ ys, 0 ≤ y ∧ y < pg) (hk : nb + 2 * pg ≤ k) (hne : k ≠ h) (hh : nb + 2 * pg ≤ h) (hd : ∀ x ∈ xs, x ∉ ys) : Lst nb pg u k xs := by
  refine ⟨?_, l.inn, fun i hi => ?_, fun i hi => ?_, l.nd⟩
  · rw [o.off k (by omega) hne (fun y m => by have := hy y m; omega), l.head]
  · have h1 := l.inn _ (getD_mem hi)
    have h2 := hd _ (getD_mem hi)
    rw [o.off _ (by omega) (by omega) (fun y m => by have := hy y m; have : xs.getD i 0 ≠ y := fun e => h2 (e ▸ m); omega), l.next i hi]
  · have h1 := l.inn _ (getD_mem hi)
    have h2 := hd _ (getD_mem hi)
    rw [o.off _ (by omega) (by omega) (fun y m => by have := hy y m; have : xs.getD i 0 ≠ y := fun e => h2 (e ▸ m); omega), l.prev i hi]
theorem Off.refl (nb pg : Int) (w : List Int) (h : Int) (ys : List Int) : Off nb pg w w h ys := ⟨rfl, fun _ _ _ _ => rfl⟩
theorem Off.set {nb pg h a x : Int} {w u ys : List Int} (o : Off nb pg w u h ys) (hu : 0 ≤ a ∧ a < w.length) (ha : a = h ∨ ∃ y ∈ ys, a = nb + y ∨ a = nb + pg + y) : Off nb pg w (u.set a.toNat x) h ys := by
  refine ⟨by rw [List.length_set, o.len], fun b hb h1 h2 => ?_⟩
  rw [wd_set (by rw [o.len]; exact hu) hb, if_neg ?_, o.off b hb h1 h2]
  rintro rfl
  rcases ha with rfl | ⟨y, hy, hb⟩
  · exact h1 rfl
  · have := h2 y hy; omega
def linkW (nb pg : Int) (w : List Int) (h p : Int) : List Int :=
  let w1 := (w.set (nb + p).toNat (wd w h)).set (nb + pg + p).toNat 0
  (if wd w h = 0 then w1 else w1.set (nb + pg + (wd w h - 1)).toNat (p + 1)).set h.toNat (p + 1)
theorem link_ok {nb pg h p : Int} {w xs : List Int} (g : Geo nb pg w.length h) (l : Lst nb pg w h xs) (hp : 0 ≤ p ∧ p < pg) (hx : p ∉ xs) : Lst nb pg (linkW nb pg w h p) h (p :: xs) ∧ Off nb pg w (linkW nb pg w h p) h (p :: xs) := by
  obtain ⟨g1, g2, g3⟩ := g
  have hf := nxV_pos l 0
  rw [← l.head] at hf
  have hw1 : ∀ b : Int, 0 ≤ b → wd ((w.set (nb + p).toNat (wd w h)).set (nb + pg + p).toNat 0) b = if b = nb + pg + p then 0 else if b = nb + p then wd w h else wd w b := fun b hb => by
    rw [wd_set (by rw [List.length_set]; omega) hb]
    split
    · rfl
    · rw [wd_set (by omega) hb]
  have hall : ∀ b : Int, 0 ≤ b → wd (linkW nb pg w h p) b = if b = h then p + 1 else if wd w h ≠ 0 ∧ b = nb + pg + (wd w h - 1) then p + 1 else if b = nb + pg + p then 0 else if b = nb + p then wd w h else wd w b := fun b hb => by
    unfold linkW
    by_cases c : wd w h = 0
    · simp only [if_pos c]
      rw [wd_set (by simp only [List.length_set]; omega) hb, hw1 b hb, c]
      simp
    · simp only [if_neg c]
      have hr : xs.length > 0 := by have := hf.2; omega
      have h0 := l.inn _ (getD_mem hr)
      have h1 := l.head
      rw [nxV_at hr] at h1
      rw [wd_set (by simp only [List.length_set]; omega) hb, wd_set (by simp only [List.length_set]; omega) hb, hw1 b hb]
      simp [c]
  have hlen : (linkW nb pg w h p).length = w.length := by unfold linkW; split <;> simp
  have hfirst : wd w h ≠ 0 → 0 < xs.length ∧ wd w h - 1 = xs.getD 0 0 := fun c => by
    have hr : xs.length > 0 := by have := hf.2; omega
    have h1 := l.head
    rw [nxV_at hr] at h1
    exact ⟨hr, by omega⟩
  refine ⟨⟨?_, ?_, ?_, ?_, ?_⟩, hlen, ?_⟩
  · rw [hall h (by omega), if_pos rfl]; simp [nxV]
  · intro x hx'
    rcases List.mem_cons.1 hx' with rfl | hx'
    · exact hp
    · exact l.inn x hx'
  · intro i hi
    cases i with
    | zero =>
      rw [List.getD_cons_zero, hall _ (by omega), if_neg (by omega), if_neg ?_, if_neg (by omega), if_pos rfl, l.head, nxV_cons]
      rintro ⟨c, d⟩
      obtain ⟨r, e⟩ := hfirst c
      have := l.inn _ (getD_mem r)
      omega
    | succ i =>
      have hi' : i < xs.length := by simpa using hi
      have h1 := l.inn _ (getD_mem hi')
      have h2 : xs.getD i 0 ≠ p := fun e => hx (e ▸ getD_mem hi')
      rw [List.getD_cons_succ, hall _ (by omega), if_neg (by omega), if_neg ?_, if_neg (by omega), if_neg (by omega), l.next i hi', nxV_cons]
      rintro ⟨c, d⟩
      obtain ⟨r, e⟩ := hfirst c
      have := l.inn _ (getD_mem r)
      omega
  · intro i hi
    cases i with
    | zero =>
      rw [List.getD_cons_zero, hall _ (by omega), if_neg (by omega), if_neg ?_, if_pos rfl, pvV_zero]
      rintro ⟨c, d⟩
      obtain ⟨r, e⟩ := hfirst c
      exact hx (by rw [show p = xs.getD 0 0 by omega]; exact getD_mem r)
    | succ i =>
      have hi' : i < xs.length := by simpa using hi
      have h1 := l.inn _ (getD_mem hi')
      have h2 : xs.getD i 0 ≠ p := fun e => hx (e ▸ getD_mem hi')
      rw [List.getD_cons_succ, hall _ (by omega), if_neg (by omega), pvV_succ]
      cases i with
      | zero =>
        have hne : wd w h ≠ 0 := by have := hf.2; omega
        obtain ⟨r, e⟩ := hfirst hne
        rw [if_pos ⟨hne, by omega⟩]
        simp [nxV]
      | succ j =>
        rw [if_neg ?_, if_neg (by omega), if_neg (by omega), l.prev _ hi', pvV_succ, nxV_cons]
        rintro ⟨c, d⟩
        obtain ⟨r, e⟩ := hfirst c
        have := nd_ne l.nd hi' r (by omega)
        omega
  · exact List.nodup_cons.2 ⟨hx, l.nd⟩
  · intro b hb h1 h2
    rw [hall b hb, if_neg h1, if_neg ?_, if_neg ?_, if_neg ?_]
    · have := h2 p (by simp); omega
    · have := h2 p (by simp); omega
    · rintro ⟨c, d⟩
      obtain ⟨r, e⟩ := hfirst c
      have := h2 _ (List.mem_cons_of_mem _ (getD_mem r))
      omega
def unlinkW (nb pg : Int) (w : List Int) (h p : Int) : List Int :=
  let a := wd w (nb + pg + p)
  let b := wd w (nb + p)
  let w1 := if a = 0 then w.set h.toNat b else w.set (nb + (a - 1)).toNat b
  let w2 := if b = 0 then w1 else w1.set (nb + pg + (b - 1)).toNat a
  (w2.set (nb + p).toNat 0).set (nb + pg + p).toNat 0
theorem getD_eraseIdx (xs : List Int) (k i : Nat) (d : Int) : (xs.eraseIdx k).getD i d = if i < k then xs.getD i d else xs.getD (i + 1) d := by
  rw [List.getD, List.getElem?_eraseIdx]
  split <;> rfl
theorem nxV_erase (xs : List Int) (k i : Nat) : nxV (xs.eraseIdx k) i = if i < k then nxV xs i else nxV xs (i + 1) := by
  unfold nxV; rw [getD_eraseIdx]; split <;> rfl
theorem unlink_ok {nb pg h : Int} {w xs : List Int} (g : Geo nb pg w.length h) (l : Lst nb pg w h xs) {k : Nat} (hk : k < xs.length) :
    Lst nb pg (unlinkW nb pg w h (xs.getD k 0)) h (xs.eraseIdx k) ∧ Off nb pg w (unlinkW nb pg w h (xs.getD k 0)) h xs ∧
    wd (unlinkW nb pg w h (xs.getD k 0)) (nb + xs.getD k 0) = 0 ∧ wd (unlinkW nb pg w h (xs.getD k 0)) (nb + pg + xs.getD k 0) = 0 := by
  obtain ⟨g1, g2, g3⟩ := g
  have ea := l.prev k hk
  have eb := l.next k hk
  have hpm := l.inn _ (getD_mem hk)
  have hel : (xs.eraseIdx k).length = xs.length - 1 := by rw [List.length_eraseIdx, if_pos hk]
  have hall : ∀ b : Int, 0 ≤ b → wd (unlinkW nb pg w h (xs.getD k 0)) b =
      if b = nb + pg + xs.getD k 0 then 0 else if b = nb + xs.getD k 0 then 0 else
      if k + 1 < xs.length ∧ b = nb + pg + xs.getD (k + 1) 0 then pvV xs k else
      if k = 0 ∧ b = h then nxV xs 1 else if 0 < k ∧ b = nb + xs.getD (k - 1) 0 then nxV xs (k + 1) else wd w b := fun b hb => by
    unfold unlinkW
    simp only [ea, eb]
    have hA : ∀ b : Int, 0 ≤ b → wd (if pvV xs k = 0 then w.set h.toNat (nxV xs (k + 1)) else w.set (nb + (pvV xs k - 1)).toNat (nxV xs (k + 1))) b =
        if k = 0 ∧ b = h then nxV xs 1 else if 0 < k ∧ b = nb + xs.getD (k - 1) 0 then nxV xs (k + 1) else wd w b := fun b hb => by
      cases k with
      | zero =>
        rw [if_pos (pvV_zero _), wd_set (by omega) hb]
        simp
      | succ j =>
        have hj : j < xs.length := by omega
        have := l.inn _ (getD_mem hj)
        rw [pvV_succ, nxV_at hj, if_neg (by omega), wd_set (by omega) hb]
        simp only [Nat.succ_ne_zero, Nat.add_one_ne_zero, false_and, if_false, Nat.add_one_sub_one, Nat.zero_lt_succ, true_and]
        have e : nb + (xs.getD j 0 + 1 - 1) = nb + xs.getD j 0 := by omega
        rw [e]
    have hlA : (if pvV xs k = 0 then w.set h.toNat (nxV xs (k + 1)) else w.set (nb + (pvV xs k - 1)).toNat (nxV xs (k + 1))).length = w.length := by split <;> simp
    generalize (if pvV xs k = 0 then w.set h.toNat (nxV xs (k + 1)) else w.set (nb + (pvV xs k - 1)).toNat (nxV xs (k + 1))) = wA at *
    have hB : ∀ b : Int, 0 ≤ b → wd (if nxV xs (k + 1) = 0 then wA else wA.set (nb + pg + (nxV xs (k + 1) - 1)).toNat (pvV xs k)) b =
        if k + 1 < xs.length ∧ b = nb + pg + xs.getD (k + 1) 0 then pvV xs k else wd wA b := fun b hb => by
      by_cases c : k + 1 < xs.length
      · have := l.inn _ (getD_mem c)
        rw [nxV_at c, if_neg (by omega), wd_set (by omega) hb]
        have e : nb + pg + (xs.getD (k + 1) 0 + 1 - 1) = nb + pg + xs.getD (k + 1) 0 := by omega
        rw [e]
        simp [c]
      · rw [nxV_end (by omega), if_pos rfl, if_neg (fun h => c h.1)]
    have hlB : (if nxV xs (k + 1) = 0 then wA else wA.set (nb + pg + (nxV xs (k + 1) - 1)).toNat (pvV xs k)).length = w.length := by split <;> simp [hlA]
    generalize (if nxV xs (k + 1) = 0 then wA else wA.set (nb + pg + (nxV xs (k + 1) - 1)).toNat (pvV xs k)) = wB at *
    rw [wd_set (by rw [List.length_set]; omega) hb]
    split
    · rfl
    · rw [wd_set (by omega) hb]
      split
      · rfl
      · rw [hB b hb, hA b hb]
  have hlen : (unlinkW nb pg w h (xs.getD k 0)).length = w.length := by
    unfold unlinkW; simp only [List.length_set]; split <;> split <;> simp
  have hin : ∀ i, i < xs.length → 0 ≤ xs.getD i 0 ∧ xs.getD i 0 < pg := fun i hi => l.inn _ (getD_mem hi)
  refine ⟨⟨?_, ?_, ?_, ?_, ?_⟩, ⟨hlen, ?_⟩, ?_, ?_⟩
  · rw [hall h (by omega), if_neg (by omega), if_neg (by omega), if_neg (fun x => by have := hin _ x.1; omega), nxV_erase]
    by_cases c : k = 0
    · rw [if_pos ⟨c, rfl⟩, if_neg (by omega)]
    · rw [if_neg (fun x => c x.1), if_neg (fun x => by have := hin (k - 1) (by omega); omega), if_pos (by omega), l.head]
  · intro x hx
    exact l.inn x (List.mem_of_mem_eraseIdx hx)
  · intro i hi
    rw [hel] at hi
    rw [getD_eraseIdx, nxV_erase]
    by_cases c : i < k
    · rw [if_pos c]
      have h1 := hin i (by omega)
      have h2 := nd_ne l.nd (i := i) (j := k) (by omega) hk (by omega)
      rw [hall _ (by omega), if_neg (by omega), if_neg (by omega), if_neg (fun x => by have := hin _ x.1; omega), if_neg (by omega)]
      by_cases d : i = k - 1
      · rw [if_pos ⟨by omega, by rw [d]⟩, if_neg (by omega), d]; congr 1; omega
      · rw [if_neg ?_, if_pos (by omega), l.next i (by omega)]
        rintro ⟨x, y⟩
        have := nd_ne l.nd (i := i) (j := k - 1) (by omega) (by omega) d
        omega
    · rw [if_neg c, if_neg (by omega)]
      have h1 := hin (i + 1) (by omega)
      have h2 := nd_ne l.nd (i := i + 1) (j := k) (by omega) hk (by omega)
      rw [hall _ (by omega), if_neg (by omega), if_neg (by omega), if_neg (fun x => by have := hin _ x.1; omega), if_neg (by omega), if_neg ?_, l.next _ (by omega)]
      rintro ⟨x, y⟩
      have := nd_ne l.nd (i := i + 1) (j := k - 1) (by omega) (by omega) (by omega)
      omega
  · intro i hi
    rw [hel] at hi
    rw [getD_eraseIdx]
    by_cases c : i < k
    · rw [if_pos c]
      have h1 := hin i (by omega)
      have h2 := nd_ne l.nd (i := i) (j := k) (by omega) hk (by omega)
      rw [hall _ (by omega), if_neg (by omega), if_neg (by omega), if_neg ?_, if_neg (by omega), if_neg (fun x => by have := hin (k - 1) (by omega); omega), l.prev i (by omega)]
      · cases i with
        | zero => rw [pvV_zero, pvV_zero]
        | succ j => rw [pvV_succ, pvV_succ, nxV_erase, if_pos (by omega)]
      · rintro ⟨x, y⟩
        have := nd_ne l.nd (i := i) (j := k + 1) (by omega) x (by omega)
        omega
    · rw [if_neg c]
      have h1 := hin (i + 1) (by omega)
      have h2 := nd_ne l.nd (i := i + 1) (j := k) (by omega) hk (by omega)
      rw [hall _ (by omega), if_neg (by omega), if_neg (by omega)]
      by_cases d : i = k
      · rw [if_pos ⟨by omega, by rw [d]⟩, d]
        cases k with
        | zero => rw [pvV_zero, pvV_zero]
        | succ j => rw [pvV_succ, pvV_succ, nxV_erase, if_pos (by omega)]
      · rw [if_neg ?_, if_neg (by omega), if_neg (fun x => by have := hin (k - 1) (by omega); omega), l.prev _ (by omega)]
        · cases i with
          | zero => omega
          | succ j => rw [pvV_succ, pvV_succ, nxV_erase, if_neg (by omega)]
        · rintro ⟨x, y⟩
          have := nd_ne l.nd (i := i + 1) (j := k + 1) (by omega) x (by omega)
          omega
  · exact List.Sublist.nodup (List.eraseIdx_sublist _ _) l.nd
  · intro b hb h1 h2
    have h3 := h2 _ (getD_mem hk)
    rw [hall b hb, if_neg (by omega), if_neg (by omega), if_neg ?_, if_neg (fun x => h1 x.2), if_neg ?_]
    · rintro ⟨x, y⟩
      have := h2 _ (getD_mem (i := k - 1) (by omega))
      omega
    · rintro ⟨x, y⟩
      have := h2 _ (getD_mem x)
      omega
  · rw [hall _ (by omega)]
    split
    · rfl
    · rw [if_pos rfl]
  · rw [hall _ (by omega), if_pos rfl]
end Go.Rx
end

section
namespace Go.Rx
theorem Off.more {nb pg h : Int} {w u xs ys : List Int} (o : Off nb pg w u h xs) (hs : ∀ x ∈ xs, x ∈ ys) : Off nb pg w u h ys :=
  ⟨o.len, fun b hb h1 h2 => o.off b hb h1 (fun y hy => h2 y (hs y hy))⟩
structure Laid (nb pg : Int) (w u : List Int) (h : Int) (xs : List Int) (i : Nat) : Prop where
  off : Off nb pg w u h xs
  head : wd u h = if i = 0 then 0 else nxV xs 0
  next : ∀ j, j < i → wd u (nb + xs.getD j 0) = nxV xs (j + 1)
  prev : ∀ j, j < i → wd u (nb + pg + xs.getD j 0) = pvV xs j
theorem Laid.start {nb pg h : Int} {w xs : List Int} (g : Geo nb pg w.length h) : Laid nb pg w (w.set h.toNat 0) h xs 0 := by
  obtain ⟨g1, g2, g3⟩ := g
  exact ⟨(Off.refl nb pg w h xs).set (by omega) (.inl rfl), by rw [wd_set (by omega) (by omega), if_pos rfl, if_pos rfl], fun j hj => by omega, fun j hj => by omega⟩
def layStep (nb pg : Int) (h : Int) (xs : List Int) (u : List Int) (i : Nat) : List Int :=
  let p := xs.getD i 0
  let u1 := (u.set (nb + p).toNat 0).set (nb + pg + p).toNat 0
  let u2 := if i = 0 then u1.set h.toNat (p + 1) else u1.set (nb + pg + p).toNat (xs.getD (i - 1) 0 + 1)
  if i + 1 < xs.length then u2.set (nb + p).toNat (xs.getD (i + 1) 0 + 1) else u2
theorem Laid.step {nb pg h : Int} {w u xs : List Int} {i : Nat} (g : Geo nb pg w.length h) (hx : ∀ x ∈ xs, 0 ≤ x ∧ x < pg) (nd : xs.Nodup) (hi : i < xs.length) (l : Laid nb pg w u h xs i) :
    Laid nb pg w (layStep nb pg h xs u i) h xs (i + 1) := by
  obtain ⟨g1, g2, g3⟩ := g
  have hin : ∀ i, i < xs.length → 0 ≤ xs.getD i 0 ∧ xs.getD i 0 < pg := fun i hi => hx _ (getD_mem hi)
  have hp := hin i hi
  have hl := l.off.len
  have hall : ∀ b : Int, 0 ≤ b → wd (layStep nb pg h xs u i) b = if b = nb + xs.getD i 0 then nxV xs (i + 1) else if b = nb + pg + xs.getD i 0 then pvV xs i else if i = 0 ∧ b = h then nxV xs 0 else wd u b := fun b hb => by
    unfold layStep
    have hA : wd (if i = 0 then ((u.set (nb + xs.getD i 0).toNat 0).set (nb + pg + xs.getD i 0).toNat 0).set h.toNat (xs.getD i 0 + 1) else ((u.set (nb + xs.getD i 0).toNat 0).set (nb + pg + xs.getD i 0).toNat 0).set (nb + pg + xs.getD i 0).toNat (xs.getD (i - 1) 0 + 1)) b =
        if b = nb + xs.getD i 0 then 0 else if b = nb + pg + xs.getD i 0 then pvV xs i else if i = 0 ∧ b = h then nxV xs 0 else wd u b := by
      have h1 : ∀ b : Int, 0 ≤ b → wd ((u.set (nb + xs.getD i 0).toNat 0).set (nb + pg + xs.getD i 0).toNat 0) b = if b = nb + pg + xs.getD i 0 then 0 else if b = nb + xs.getD i 0 then 0 else wd u b := fun b hb => by
        rw [wd_set (by rw [List.length_set]; omega) hb]
        split
        · rfl
        · rw [wd_set (by omega) hb]
      cases i with
      | zero =>
        rw [if_pos rfl, wd_set (by simp only [List.length_set]; omega) hb, h1 b hb, pvV_zero, nxV_at hi]
        by_cases e1 : b = h
        · rw [if_pos e1, if_neg (by omega), if_neg (by omega), if_pos ⟨rfl, e1⟩]
        · rw [if_neg e1]
          by_cases e2 : b = nb + pg + xs.getD 0 0
          · rw [if_pos e2, if_neg (by omega), if_pos e2]
          · rw [if_neg e2, if_neg e2]
            by_cases e3 : b = nb + xs.getD 0 0
            · rw [if_pos e3, if_pos e3]
            · rw [if_neg e3, if_neg e3, if_neg (fun x => e1 x.2)]
      | succ j =>
        rw [if_neg (by omega), wd_set (by simp only [List.length_set]; omega) hb, h1 b hb, pvV_succ, nxV_at (by omega)]
        by_cases e2 : b = nb + pg + xs.getD (j + 1) 0
        · rw [if_pos e2, if_neg (by omega), if_pos e2]; rfl
        · rw [if_neg e2, if_neg e2, if_neg e2]
          by_cases e3 : b = nb + xs.getD (j + 1) 0
          · rw [if_pos e3, if_pos e3]
          · rw [if_neg e3, if_neg e3, if_neg (by omega)]
    have hlA : (if i = 0 then ((u.set (nb + xs.getD i 0).toNat 0).set (nb + pg + xs.getD i 0).toNat 0).set h.toNat (xs.getD i 0 + 1) else ((u.set (nb + xs.getD i 0).toNat 0).set (nb + pg + xs.getD i 0).toNat 0).set (nb + pg + xs.getD i 0).toNat (xs.getD (i - 1) 0 + 1)).length = w.length := by
      split <;> simp [hl]
    simp only
    generalize (if i = 0 then ((u.set (nb + xs.getD i 0).toNat 0).set (nb + pg + xs.getD i 0).toNat 0).set h.toNat (xs.getD i 0 + 1) else ((u.set (nb + xs.getD i 0).toNat 0).set (nb + pg + xs.getD i 0).toNat 0).set (nb + pg + xs.getD i 0).toNat (xs.getD (i - 1) 0 + 1)) = wA at *
    by_cases c : i + 1 < xs.length
    · rw [if_pos c, wd_set (by omega) hb, hA, nxV_at c]
      split <;> rfl
    · rw [if_neg c, hA, nxV_end (xs := xs) (i := i + 1) (by omega)]
  refine ⟨⟨?_, ?_⟩, ?_, ?_, ?_⟩
  · unfold layStep; simp only; split <;> split <;> simp [hl]
  · intro b hb h1 h2
    have h3 := h2 _ (getD_mem hi)
    rw [hall b hb, if_neg h3.1, if_neg h3.2, if_neg (fun x => h1 x.2), l.off.off b hb h1 h2]
  · rw [hall h (by omega), if_neg (by omega), if_neg (by omega), if_neg (Nat.succ_ne_zero i), l.head]
    by_cases c : i = 0
    · rw [if_pos ⟨c, rfl⟩]
    · rw [if_neg (fun x => c x.1), if_neg c]
  · intro j hj
    have h1 := hin j (by omega)
    by_cases e : j = i
    · rw [e, hall _ (by omega), if_pos rfl]
    · have h2 := nd_ne nd (i := j) (j := i) (by omega) hi e
      rw [hall _ (by omega), if_neg (by omega), if_neg (by omega), if_neg (by omega), l.next j (by omega)]
  · intro j hj
    have h1 := hin j (by omega)
    by_cases e : j = i
    · rw [e, hall _ (by omega), if_neg (by omega), if_pos rfl]
    · have h2 := nd_ne nd (i := j) (j := i) (by omega) hi e
      rw [hall _ (by omega), if_neg (by omega), if_neg (by omega), if_neg (by omega), l.prev j (by omega)]
theorem Laid.fin {nb pg h : Int} {w u xs : List Int} (hx : ∀ x ∈ xs, 0 ≤ x ∧ x < pg) (nd : xs.Nodup) (l : Laid nb pg w u h xs xs.length) : Lst nb pg u h xs := by
  refine ⟨?_, hx, l.next, l.prev, nd⟩
  rw [l.head]
  by_cases c : xs.length = 0
  · rw [if_pos c, nxV_end (by omega)]
  · rw [if_neg c]
def slotsC (c : Int) : Int := if c = 0 then 32 else if c = 1 then 16 else if c = 2 then 8 else if c = 3 then 4 else if c = 4 then 2 else 0
def isL (c f : Int) : Prop := (0 ≤ c ∧ c < 5) ∧ 1 ≤ f ∧ f ≤ slotsC c
instance (c f : Int) : Decidable (isL c f) := decidable_of_iff ((0 ≤ c ∧ c < 5) ∧ 1 ≤ f ∧ f ≤ slotsC c) Iff.rfl
def hdI (hb c f : Int) : Int := hb + 64 - 2 * slotsC c + f - 1
theorem slotsC_le (c : Int) : 0 ≤ slotsC c ∧ slotsC c ≤ 32 := by
  unfold slotsC; repeat' split
  all_goals omega
theorem hd_in {hb c f : Int} (h : isL c f) : hb ≤ hdI hb c f ∧ hdI hb c f < hb + 62 := by
  obtain ⟨h1, h2, h3⟩ := h
  have e : c = 0 ∨ c = 1 ∨ c = 2 ∨ c = 3 ∨ c = 4 := by omega
  unfold hdI
  rcases e with rfl | rfl | rfl | rfl | rfl <;> simp [slotsC] at * <;> omega
theorem hd_inj {hb c f c' f' : Int} (h : isL c f) (h' : isL c' f') (e : hdI hb c f = hdI hb c' f') : c = c' ∧ f = f' := by
  obtain ⟨h1, h2, h3⟩ := h
  obtain ⟨h1', h2', h3'⟩ := h'
  have a : c = 0 ∨ c = 1 ∨ c = 2 ∨ c = 3 ∨ c = 4 := by omega
  have a' : c' = 0 ∨ c' = 1 ∨ c' = 2 ∨ c' = 3 ∨ c' = 4 := by omega
  unfold hdI at e
  rcases a with rfl | rfl | rfl | rfl | rfl <;> rcases a' with rfl | rfl | rfl | rfl | rfl <;> simp [slotsC] at * <;> omega
structure RepW (nb pg : Int) (w inn : List Int) (ls : Int → Int → List Int) : Prop where
  lst : ∀ c f, isL c f → Lst nb pg w (hdI (nb + 2 * pg) c f) (ls c f)
  len : (inn.length : Int) = pg
  mem : ∀ c f, isL c f → ∀ p, p ∈ ls c f ↔ (0 ≤ p ∧ p < pg) ∧ wd inn p = 100 * c + f
  some : ∀ p, 0 ≤ p → p < pg → wd inn p = 0 ∨ ∃ c f, isL c f ∧ wd inn p = 100 * c + f
  none : ∀ p, 0 ≤ p → p < pg → wd inn p = 0 → wd w (nb + p) = 0 ∧ wd w (nb + pg + p) = 0
structure GeoA (nb pg : Int) (n : Nat) : Prop where
  base : 1 ≤ nb
  pages : 1 ≤ pg ∧ pg ≤ 256
  top : nb + 2 * pg + 62 ≤ n
theorem GeoA.geo {nb pg : Int} {n : Nat} (g : GeoA nb pg n) {c f : Int} (h : isL c f) : Geo nb pg n (hdI (nb + 2 * pg) c f) := by
  have := hd_in (hb := nb + 2 * pg) h
  have := g.top
  exact ⟨g.base, g.pages, by omega⟩
def putL (ls : Int → Int → List Int) (c f : Int) (xs : List Int) : Int → Int → List Int := fun c' f' => if c' = c ∧ f' = f then xs else ls c' f'
theorem code_inj {c f c' f' : Int} (h : isL c f) (h' : isL c' f') (e : 100 * c + f = 100 * c' + f') : c = c' ∧ f = f' := by
  have := slotsC_le c; have := slotsC_le c'
  obtain ⟨h1, h2, h3⟩ := h
  obtain ⟨h1', h2', h3'⟩ := h'
  omega
theorem RepW.link {nb pg : Int} {w u inn : List Int} {ls : Int → Int → List Int} {c f p : Int} (r : RepW nb pg w inn ls) (g : GeoA nb pg w.length) (h : isL c f) (hp : 0 ≤ p ∧ p < pg) (h0 : wd inn p = 0)
    (l : Lst nb pg u (hdI (nb + 2 * pg) c f) (p :: ls c f)) (o : Off nb pg w u (hdI (nb + 2 * pg) c f) (p :: ls c f)) : RepW nb pg u (inn.set p.toNat (100 * c + f)) (putL ls c f (p :: ls c f)) := by
  have hb := hd_in (hb := nb + 2 * pg) h
  have g1 := g.base; have g2 := g.pages
  have hlen := r.len
  have hys : ∀ y ∈ p :: ls c f, 0 ≤ y ∧ y < pg := l.inn
  have hset : ∀ q, 0 ≤ q → wd (inn.set p.toNat (100 * c + f)) q = if q = p then 100 * c + f else wd inn q := fun q hq => wd_set (by omega) hq
  refine ⟨fun c' f' h' => ?_, by rw [List.length_set]; exact hlen, fun c' f' h' q => ?_, fun q hq hq' => ?_, fun q hq hq' hz => ?_⟩
  · unfold putL
    by_cases e : c' = c ∧ f' = f
    · rw [if_pos e, e.1, e.2]; exact l
    · rw [if_neg e]
      have hb' := hd_in (hb := nb + 2 * pg) h'
      refine (r.lst c' f' h').keep g1 (by omega) o hys (by omega) (fun x => e (hd_inj h' h x)) (by omega) (fun x hx => ?_)
      intro hm
      have hx' := ((r.mem c' f' h' x).1 hx).2
      rcases List.mem_cons.1 hm with rfl | hm
      · have := slotsC_le c'; have h2 := h'.2; have h1 := h'.1; omega
      · have := ((r.mem c f h x).1 hm).2
        exact e (code_inj h' h (by omega))
  · unfold putL
    by_cases e : c' = c ∧ f' = f
    · rw [if_pos e, e.1, e.2]
      constructor
      · intro hm
        rcases List.mem_cons.1 hm with rfl | hm
        · exact ⟨hp, by rw [hset _ hp.1, if_pos rfl]⟩
        · have h1 := (r.mem c f h q).1 hm
          refine ⟨h1.1, ?_⟩
          rw [hset _ h1.1.1]
          split
          · rfl
          · exact h1.2
      · rintro ⟨h1, h2⟩
        rw [hset _ h1.1] at h2
        by_cases d : q = p
        · rw [d]; simp
        · rw [if_neg d] at h2
          exact List.mem_cons_of_mem _ ((r.mem c f h q).2 ⟨h1, h2⟩)
    · rw [if_neg e, r.mem c' f' h' q]
      constructor
      · rintro ⟨h1, h2⟩
        refine ⟨h1, ?_⟩
        rw [hset _ h1.1, if_neg ?_]
        · exact h2
        · rintro rfl
          have := h'.1; have := h'.2; omega
      · rintro ⟨h1, h2⟩
        refine ⟨h1, ?_⟩
        rw [hset _ h1.1] at h2
        by_cases d : q = p
        · rw [if_pos d] at h2
          have := code_inj h h' h2
          exact (e ⟨this.1.symm, this.2.symm⟩).elim
        · rw [if_neg d] at h2; exact h2
  · rw [hset q hq]
    by_cases d : q = p
    · rw [if_pos d]; exact .inr ⟨c, f, h, rfl⟩
    · rw [if_neg d]; exact r.some q hq hq'
  · rw [hset q hq] at hz
    by_cases d : q = p
    · rw [if_pos d] at hz
      have := h.1; have := h.2; omega
    · rw [if_neg d] at hz
      have hn := r.none q hq hq' hz
      have hnm : ∀ y ∈ p :: ls c f, y ≠ q := fun y hy e => by
        rcases List.mem_cons.1 hy with rfl | hy
        · exact d e.symm
        · have := ((r.mem c f h y).1 hy).2
          rw [e, hz] at this
          have := h.1; have := h.2; omega
      rw [o.off (nb + q) (by omega) (by omega) (fun y hy => by have := hnm y hy; have := hys y hy; omega), o.off (nb + pg + q) (by omega) (by omega) (fun y hy => by have := hnm y hy; have := hys y hy; omega)]
      exact hn
theorem mem_erase_nd {xs : List Int} (nd : xs.Nodup) {k : Nat} (hk : k < xs.length) (q : Int) : q ∈ xs.eraseIdx k ↔ q ∈ xs ∧ q ≠ xs.getD k 0 := by
  constructor
  · intro h
    refine ⟨List.mem_of_mem_eraseIdx h, ?_⟩
    rintro rfl
    obtain ⟨i, hi, e⟩ := mem_getD h
    rw [List.length_eraseIdx, if_pos hk] at hi
    rw [getD_eraseIdx] at e
    by_cases c : i < k
    · rw [if_pos c] at e; exact nd_ne nd (by omega) hk (by omega) e
    · rw [if_neg c] at e; exact nd_ne nd (by omega) hk (by omega) e
  · rintro ⟨h1, h2⟩
    obtain ⟨i, hi, rfl⟩ := mem_getD h1
    have hne : i ≠ k := fun e => h2 (by rw [e])
    have hl : (xs.eraseIdx k).length = xs.length - 1 := by rw [List.length_eraseIdx, if_pos hk]
    by_cases c : i < k
    · have := getD_mem (xs := xs.eraseIdx k) (i := i) (by omega)
      rw [getD_eraseIdx, if_pos c] at this; exact this
    · have := getD_mem (xs := xs.eraseIdx k) (i := i - 1) (by omega)
      rw [getD_eraseIdx, if_neg (by omega), show i - 1 + 1 = i by omega] at this; exact this
theorem RepW.unlink {nb pg : Int} {w u inn : List Int} {ls : Int → Int → List Int} {c f : Int} {k : Nat} (r : RepW nb pg w inn ls) (g : GeoA nb pg w.length) (h : isL c f) (hk : k < (ls c f).length)
    (l : Lst nb pg u (hdI (nb + 2 * pg) c f) ((ls c f).eraseIdx k)) (o : Off nb pg w u (hdI (nb + 2 * pg) c f) (ls c f))
    (z1 : wd u (nb + (ls c f).getD k 0) = 0) (z2 : wd u (nb + pg + (ls c f).getD k 0) = 0) : RepW nb pg u (inn.set ((ls c f).getD k 0).toNat 0) (putL ls c f ((ls c f).eraseIdx k)) := by
  have hb := hd_in (hb := nb + 2 * pg) h
  have g1 := g.base; have g2 := g.pages
  have hlen := r.len
  have hys : ∀ y ∈ ls c f, 0 ≤ y ∧ y < pg := (r.lst c f h).inn
  have hp := hys _ (getD_mem hk)
  have hpi := ((r.mem c f h _).1 (getD_mem hk)).2
  have nd := (r.lst c f h).nd
  have hme := mem_erase_nd nd hk
  generalize hpe : (ls c f).getD k 0 = p at *
  have hset : ∀ q, 0 ≤ q → wd (inn.set p.toNat 0) q = if q = p then 0 else wd inn q := fun q hq => wd_set (by omega) hq
  refine ⟨fun c' f' h' => ?_, by rw [List.length_set]; exact hlen, fun c' f' h' q => ?_, fun q hq hq' => ?_, fun q hq hq' hz => ?_⟩
  · unfold putL
    by_cases e : c' = c ∧ f' = f
    · rw [if_pos e, e.1, e.2]; exact l
    · rw [if_neg e]
      have hb' := hd_in (hb := nb + 2 * pg) h'
      refine (r.lst c' f' h').keep g1 (by omega) o hys (by omega) (fun x => e (hd_inj h' h x)) (by omega) (fun x hx => ?_)
      intro hm
      have hx' := ((r.mem c' f' h' x).1 hx).2
      have := ((r.mem c f h x).1 hm).2
      exact e (code_inj h' h (by omega))
  · unfold putL
    by_cases e : c' = c ∧ f' = f
    · rw [if_pos e, e.1, e.2, hme, r.mem c f h q]
      constructor
      · rintro ⟨⟨h1, h2⟩, h3⟩
        exact ⟨h1, by rw [hset _ h1.1, if_neg h3]; exact h2⟩
      · rintro ⟨h1, h2⟩
        rw [hset _ h1.1] at h2
        by_cases d : q = p
        · rw [if_pos d] at h2
          have := h.1; have := h.2; omega
        · rw [if_neg d] at h2
          exact ⟨⟨h1, h2⟩, d⟩
    · rw [if_neg e, r.mem c' f' h' q]
      constructor
      · rintro ⟨h1, h2⟩
        refine ⟨h1, ?_⟩
        rw [hset _ h1.1, if_neg ?_]
        · exact h2
        · rintro rfl
          exact e (code_inj h' h (by omega))
      · rintro ⟨h1, h2⟩
        refine ⟨h1, ?_⟩
        rw [hset _ h1.1] at h2
        by_cases d : q = p
        · rw [if_pos d] at h2
          have := h'.1; have := h'.2; omega
        · rw [if_neg d] at h2; exact h2
  · rw [hset q hq]
    by_cases d : q = p
    · rw [if_pos d]; exact .inl rfl
    · rw [if_neg d]; exact r.some q hq hq'
  · rw [hset q hq] at hz
    by_cases d : q = p
    · rw [d]; exact ⟨z1, z2⟩
    · rw [if_neg d] at hz
      have hn := r.none q hq hq' hz
      have hnm : ∀ y ∈ ls c f, y ≠ q := fun y hy e => by
        have := ((r.mem c f h y).1 hy).2
        rw [e, hz] at this
        have := h.1; have := h.2; omega
      rw [o.off (nb + q) (by omega) (by omega) (fun y hy => by have := hnm y hy; have := hys y hy; omega), o.off (nb + pg + q) (by omega) (by omega) (fun y hy => by have := hnm y hy; have := hys y hy; omega)]
      exact hn
theorem RepW.zero {nb pg : Int} {n : Nat} (g : GeoA nb pg n) : RepW nb pg (List.replicate n 0) (List.replicate pg.toNat 0) (fun _ _ => []) := by
  have hz : ∀ (n : Nat) (b : Int), wd (List.replicate n 0) b = 0 := fun n b => by
    simp [wd, List.getD, List.getElem?_replicate]; split <;> rfl
  have g2 := g.pages
  refine ⟨fun c f h => ⟨by rw [hz]; rfl, fun x hx => by simp at hx, fun i hi => by simp at hi, fun i hi => by simp at hi, List.nodup_nil⟩, by simp; omega, fun c f h p => ?_, fun p _ _ => .inl (hz _ _), fun p _ _ _ => ⟨hz _ _, hz _ _⟩⟩
  rw [hz]
  have := h.1; have := h.2
  constructor
  · intro h; simp at h
  · rintro ⟨_, h⟩; omega
def firstF (ls : Int → Int → List Int) (c : Int) (f : Int) : Nat → Int
  | 0 => -1
  | n + 1 => match ls c f with
    | [] => firstF ls c (f + 1) n
    | x :: _ => x
theorem firstF_more {ls : Int → Int → List Int} {c : Int} : ∀ (n m : Nat) (f : Int), (∀ g : Int, f + n ≤ g → ls c g = []) → firstF ls c f (n + m) = firstF ls c f n
  | 0, 0, _, _ => rfl
  | 0, m + 1, f, h => by
    have h0 := h f (by omega)
    have ih := firstF_more 0 m (f + 1) (fun g hg => h g (by omega))
    simp only [Nat.zero_add] at ih ⊢
    simp only [firstF, h0]
    exact ih
  | n + 1, m, f, h => by
    rw [show n + 1 + m = (n + m) + 1 by omega]
    simp only [firstF]
    split
    · exact firstF_more n m (f + 1) (fun g hg => h g (by omega))
    · rfl
end Go.Rx
end

noncomputable section
namespace Go.Rx
open Go.Proofs
set_option maxRecDepth 100000
set_option maxHeartbeats 4000000
abbrev Y22 := ya → Option yb
def y7m (m_ : Y22) (args : List V) (H : Heap) (K : V → Heap → Prop) : Prop :=
  aC args fun a0 r => aN r <| aAgg a0 fun c0 => yq c0 fun l2 => aN H <| So (m_ l2) fun x => K (.agg (y1j x)) []
def y3h (m_ : Y22) : Spec := ⟨y7m m_, (true : Bool)⟩
abbrev Y26 := ya → Option Int
def y7r (m_ : Y26) (args : List V) (H : Heap) (K : V → Heap → Prop) : Prop :=
  aC args fun a0 r => aN r <| aAgg a0 fun c0 => yq c0 fun l2 => aN H <| So (m_ l2) fun x => K (vi x) []
def yba (m_ : Y26) : Spec := ⟨y7r m_, (true : Bool)⟩
def y8h (m_ : Y26) (args : List V) (H : Heap) (K : V → Heap → Prop) : Prop :=
  aC args fun a0 r => aN r <| aAgg a0 fun c0 => yq c0 fun l2 => aN H <| So (m_ l2) fun x => K (vi x) []
def y6w (m_ : Y26) : Spec := ⟨y8h m_, (true : Bool)⟩
def y7a (m_ : Y4) (args : List V) (H : Heap) (K : V → Heap → Prop) : Prop :=
  aC args fun a0 r => aN r <| aInt a0 fun pages => aN H <| So (m_ pages) fun x => K (vi x) []
def y85 (m_ : Y4) : Spec := ⟨y7a m_, (true : Bool)⟩
def y9c (m_ : Y26) (args : List V) (H : Heap) (K : V → Heap → Prop) : Prop :=
  aC args fun a0 r => aN r <| aAgg a0 fun c0 => yq c0 fun l2 => aN H <| So (m_ l2) fun x => K (vi x) []
def y60 (m_ : Y26) : Spec := ⟨y9c m_, (true : Bool)⟩
abbrev Y1 := ya → Int → Option Int
def y7q (m_ : Y1) (args : List V) (H : Heap) (K : V → Heap → Prop) : Prop :=
  aC args fun a0 r => aC r fun a1 r => aN r <| aAgg a0 fun c0 => yq c0 fun l2 => aInt a1 fun k => aN H <| So (m_ l2 k) fun x => K (vi x) []
def y80 (m_ : Y1) : Spec := ⟨y7q m_, (true : Bool)⟩
def y63 (m_ : Y1) (args : List V) (H : Heap) (K : V → Heap → Prop) : Prop :=
  aC args fun a0 r => aC r fun a1 r => aN r <| aAgg a0 fun c0 => yq c0 fun l2 => aInt a1 fun p => aN H <| So (m_ l2 p) fun x => K (vi x) []
def y5e (m_ : Y1) : Spec := ⟨y63 m_, (true : Bool)⟩
def y6r (m_ : Y1) (args : List V) (H : Heap) (K : V → Heap → Prop) : Prop :=
  aC args fun a0 r => aC r fun a1 r => aN r <| aAgg a0 fun c0 => yq c0 fun l2 => aInt a1 fun p => aN H <| So (m_ l2 p) fun x => K (vi x) []
def y48 (m_ : Y1) : Spec := ⟨y6r m_, (true : Bool)⟩
def y6o (m_ : Y1) (args : List V) (H : Heap) (K : V → Heap → Prop) : Prop :=
  aC args fun a0 r => aC r fun a1 r => aN r <| aAgg a0 fun c0 => yq c0 fun l2 => aInt a1 fun p => aN H <| So (m_ l2 p) fun x => K (vi x) []
def y49 (m_ : Y1) : Spec := ⟨y6o m_, (true : Bool)⟩
def y6d (m_ : Y1) (args : List V) (H : Heap) (K : V → Heap → Prop) : Prop :=
  aC args fun a0 r => aC r fun a1 r => aN r <| aAgg a0 fun c0 => yq c0 fun l2 => aInt a1 fun p => aN H <| So (m_ l2 p) fun x => K (vi x) []
def y5j (m_ : Y1) : Spec := ⟨y6d m_, (true : Bool)⟩
def y70 (m_ : Y1) (args : List V) (H : Heap) (K : V → Heap → Prop) : Prop :=
  aC args fun a0 r => aC r fun a1 r => aN r <| aAgg a0 fun c0 => yq c0 fun l2 => aInt a1 fun p => aN H <| So (m_ l2 p) fun x => K (vi x) []
def y9g (m_ : Y1) : Spec := ⟨y70 m_, (true : Bool)⟩
abbrev Y23 := ya → Int → Option Bool
def y9a (m_ : Y23) (args : List V) (H : Heap) (K : V → Heap → Prop) : Prop :=
  aC args fun a0 r => aC r fun a1 r => aN r <| aAgg a0 fun c0 => yq c0 fun l2 => aInt a1 fun c => aN H <| So (m_ l2 c) fun x => K (vb x) []
def yal (m_ : Y23) : Spec := ⟨y9a m_, (true : Bool)⟩
abbrev Y32 := ya → Int → Int → Option Int
def y77 (m_ : Y32) (args : List V) (H : Heap) (K : V → Heap → Prop) : Prop :=
  aC args fun a0 r => aC r fun a1 r => aC r fun a2 r => aN r <| aAgg a0 fun c0 => yq c0 fun l2 => aInt a1 fun c => aInt a2 fun f => aN H <| So (m_ l2 c f) fun x => K (vi x) []
def y81 (m_ : Y32) : Spec := ⟨y77 m_, (true : Bool)⟩
def y8p (m_ : Y23) (args : List V) (H : Heap) (K : V → Heap → Prop) : Prop :=
  aC args fun a0 r => aC r fun a1 r => aN r <| aAgg a0 fun c0 => yq c0 fun l2 => aInt a1 fun a => aN H <| So (m_ l2 a) fun x => K (vb x) []
def yax (m_ : Y23) : Spec := ⟨y8p m_, (true : Bool)⟩
def y8z (m_ : Y1) (args : List V) (H : Heap) (K : V → Heap → Prop) : Prop :=
  aC args fun a0 r => aC r fun a1 r => aN r <| aAgg a0 fun c0 => yq c0 fun l2 => aInt a1 fun p => aN H <| So (m_ l2 p) fun x => K (vi x) []
def yeb (m_ : Y1) : Spec := ⟨y8z m_, (true : Bool)⟩
abbrev Y39 := ya → Int → Option (Int × Int × Bool)
def y6t (m_ : Y39) (args : List V) (H : Heap) (K : V → Heap → Prop) : Prop :=
  aC args fun a0 r => aC r fun a1 r => aN r <| aAgg a0 fun c0 => yq c0 fun l2 => aInt a1 fun a => aN H <| So (m_ l2 a) fun x => K (.tup [vi x.1, vi x.2.1, vb x.2.2]) []
def ybl (m_ : Y39) : Spec := ⟨y6t m_, (true : Bool)⟩
abbrev Y48 := y03 → Option Bool
def y94 (m_ : Y48) (args : List V) (H : Heap) (K : V → Heap → Prop) : Prop :=
  aC args fun a0 r => aN r <| aAgg a0 fun c0 => y5b c0 fun xv => aN H <| So (m_ xv) fun x => K (vb x) []
def ydp (m_ : Y48) : Spec := ⟨y94 m_, (true : Bool)⟩
def y6s (m_ : yb → Option Int) (args : List V) (H : Heap) (K : V → Heap → Prop) : Prop :=
  aC args fun a0 r => aN r <| aAgg a0 fun c0 => y3e c0 fun c => aN H <| So (m_ c) fun x => K (vi x) []
def ye0 (m_ : yb → Option Int) : Spec := ⟨y6s m_, (true : Bool)⟩
abbrev Y42 := yb → Option (ya × Int)
def y61 (m_ : Y42) (args : List V) (H : Heap) (K : V → Heap → Prop) : Prop :=
  aC args fun a0 r => aN r <| aAgg a0 fun c0 => y3e c0 fun c => aN H <| So (m_ c) fun x => K (.tup [.agg (yc x.1), vi x.2]) []
def y6p (m_ : Y42) : Spec := ⟨y61 m_, (true : Bool)⟩
def yd1  : Cfg := { cfgB with
  sigs := sigN }
def yab  : Cfg := { cfgB with
  sigs := sigN }
def yeg  : Cfg := { cfgB with
  sigs := sigN }
def yc0  : Cfg := { cfgB with
  sigs := sigN }
def yd6 (y1b : Y4) : Cfg := { cfgB with
  sigs := (sigC 68 (y85 y1b) sigN) }
def ydz (y0x : Y26) : Cfg := { cfgB with
  sigs := (sigC 165 (y60 y0x) (sigC 49 (inlS cfgB Tryz.f49) sigN)),
  plan := fun r => match r with | 1 => some (List.range 6, 0) | _ => none }
def ycc  : Cfg := { cfgB with
  sigs := (sigC 49 (inlS cfgB Tryz.f49) sigN) }
def ye9  : Cfg := { cfgB with
  sigs := (sigC 49 (inlS cfgB Tryz.f49) sigN) }
def yd7  : Cfg := { cfgB with
  sigs := (sigC 49 (inlS cfgB Tryz.f49) sigN) }
def ybf  : Cfg := { cfgB with
  sigs := (sigC 49 (inlS cfgB Tryz.f49) sigN) }
def yat  : Cfg := { cfgB with
  sigs := (sigC 49 (inlS cfgB Tryz.f49) sigN) }
def ydt  : Cfg := { cfgB with
  sigs := sigN }
def yby (y2i : Y23) : Cfg := { cfgB with
  sigs := (sigC 125 (yal y2i) sigN) }
def yc7  : Cfg := { cfgB with
  sigs := sigN }
def ycd  : Cfg := { cfgB with
  sigs := sigN }
def ydv (y1x : Y23) : Cfg := { cfgB with
  sigs := (sigC 60 (yax y1x) sigN) }
def ya4  : Cfg := { cfgB with
  sigs := sigN }
def ydk (y08 : Y48) : Cfg := { cfgB with
  sigs := (sigC 104 (ydp y08) sigN),
  keep := fun r => match r with | 2 => some [(38, some 38), (39, none), (40, none)] | _ => none,
  unroll := fun r => match r with | 2 => some 12 | _ => none }
def ydc (y2f : yb → Option Int) (y1b : Y4) : Cfg := { cfgB with
  sigs := (sigC 67 (ye0 y2f) (sigC 68 (y85 y1b) sigN)),
  keep := fun r => match r with | 8 => some [(1, none), (2, none), (5, none), (6, none), (23, some 0), (24, none), (25, none)] | 19 => some [(2, none), (5, none), (6, none), (9, none), (59, none)] | _ => none,
  unroll := fun r => match r with | 8 => some 6 | 19 => some 12 | _ => none }
theorem yhm (l2 : ya) (K : V → Heap → Prop) : (exF yd1 Tryz.f17 [.agg (yc l2)] [] K) = (
    K (.agg (y1j l2.c)) []) := by kernel_rfl
theorem yih (l2 : ya) (K : V → Heap → Prop) : (exF yab Tryz.f34 [.agg (yc l2)] [] K) = (
    K (vi l2.at_11) []) := by kernel_rfl
theorem yfg (l2 : ya) (K : V → Heap → Prop) : (exF yeg Tryz.f36 [.agg (yc l2)] [] K) = (
    K (vi l2.at_10) []) := by kernel_rfl
theorem yh1 (pages : Int) (K : V → Heap → Prop) : (exF yc0 Tryz.f68 [vi pages] [] K) = (
    K (vi (IntKind.i64.wrap (Int.tdiv (IntKind.i64.wrap (IntKind.i64.wrap (pages + 4) - 1)) 4))) []) := by kernel_rfl
theorem yha (y1b : Y4) (l2 : ya) (K : V → Heap → Prop) : (exF (yd6 y1b) Tryz.f165 [.agg (yc l2)] [] K) = (
    So (y1b l2.c.Pages) (fun (y0 : Int) => (K (vi y0) []))) := by kernel_rfl
theorem yfc (y0x : Y26) (l2 : ya) (k : Int) (K : V → Heap → Prop) : (exF (ydz y0x) Tryz.f162 [.agg (yc l2), vi k] [] K) = (
    So (y0x l2) (fun (y0 : Int) => (br (decide (k < 0)) (K (vi 0) []) (br (decide (k ≥ y0)) (K (vi 0) []) (K (vi (IntKind.i64.wrap (l2.at_0 + k))) []))))) := by kernel_rfl
theorem yft (l2 : ya) (p : Int) (K : V → Heap → Prop) : (exF ycc Tryz.f18 [.agg (yc l2), vi p] [] K) = (
    br (decide (p < 0)) (K (vi 0) []) (br (decide (p ≥ l2.c.Pages)) (K (vi 0) []) (K (vi (IntKind.i64.wrap (l2.at_1 + p))) []))) := by kernel_rfl
theorem yj2 (l2 : ya) (p : Int) (K : V → Heap → Prop) : (exF ye9 Tryz.f31 [.agg (yc l2), vi p] [] K) = (
    br (decide (p < 0)) (K (vi 0) []) (br (decide (p ≥ l2.c.Pages)) (K (vi 0) []) (K (vi (IntKind.i64.wrap (l2.at_2 + p))) []))) := by kernel_rfl
theorem yhg (l2 : ya) (p : Int) (K : V → Heap → Prop) : (exF yd7 Tryz.f22 [.agg (yc l2), vi p] [] K) = (
    br (decide (p < 0)) (K (vi 0) []) (br (decide (p ≥ l2.c.Pages)) (K (vi 0) []) (K (vi (IntKind.i64.wrap (l2.at_3 + p))) []))) := by kernel_rfl
theorem yi2 (l2 : ya) (p : Int) (K : V → Heap → Prop) : (exF ybf Tryz.f139 [.agg (yc l2), vi p] [] K) = (
    br (decide (p < 0)) (K (vi 0) []) (br (decide (p ≥ l2.c.Pages)) (K (vi 0) []) (K (vi (IntKind.i64.wrap (l2.at_4 + p))) []))) := by kernel_rfl
theorem yf9 (l2 : ya) (p : Int) (K : V → Heap → Prop) : (exF yat Tryz.f138 [.agg (yc l2), vi p] [] K) = (
    br (decide (p < 0)) (K (vi 0) []) (br (decide (p ≥ l2.c.Pages)) (K (vi 0) []) (K (vi (IntKind.i64.wrap (l2.at_5 + p))) []))) := by kernel_rfl
theorem yia (l2 : ya) (c : Int) (K : V → Heap → Prop) : (exF ydt Tryz.f125 [.agg (yc l2), vi c] [] K) = (
    br (l2.c.Pages == 0) (K (vb true) []) (br (decide (c < 0)) (K (vb true) []) (K (vb (decide (c ≥ 5))) []))) := by kernel_rfl
theorem yjh (y2i : Y23) (l2 : ya) (c f : Int) (K : V → Heap → Prop) : (exF (yby y2i) Tryz.f93 [.agg (yc l2), vi c, vi f] [] K) = (
    So (y2i l2 c) (fun (y0 : Bool) => (br y0 (K (vi 0) []) (Req (decide (0 ≤ c)) (br (decide (f < 1)) (K (vi 0) []) (br (decide (f > 32 / 2 ^ Min.min (Int.toNat c) (IntKind.bits IntKind.i64))) (K (vi 0) []) (K (vi (IntKind.i64.wrap (IntKind.i64.wrap (IntKind.i64.wrap (l2.at_6 + IntKind.i64.wrap (64 - IntKind.i64.wrap (2 * (32 / 2 ^ Min.min (Int.toNat c) (IntKind.bits IntKind.i64))))) + f) - 1))) []))))))) := by kernel_rfl
theorem yh7 (l2 : ya) (a : Int) (K : V → Heap → Prop) : (exF yc7 Tryz.f60 [.agg (yc l2), vi a] [] K) = (
    br (decide (a ≥ l2.at_10)) (K (vb (decide (a < l2.at_11))) []) (K (vb false) [])) := by kernel_rfl
theorem yhf (l2 : ya) (p : Int) (K : V → Heap → Prop) : (exF ycd Tryz.f59 [.agg (yc l2), vi p] [] K) = (
    br (decide (p < 0)) (K (vi 0) []) (br (decide (p ≥ l2.c.Pages)) (K (vi 0) []) (K (vi (IntKind.i64.wrap (l2.at_10 + IntKind.i64.wrap (p * 32)))) []))) := by kernel_rfl
theorem yj9 (y1x : Y23) (l2 : ya) (a : Int) (K : V → Heap → Prop) : (exF (ydv y1x) Tryz.f26 [.agg (yc l2), vi a] [] K) = (
    So (y1x l2 a) (fun (y0 : Bool) => (br (!y0) (K (.tup [vi 0, vi 0, vb false]) []) (K (.tup [vi (IntKind.i64.wrap (Int.tdiv (IntKind.i64.wrap (a - l2.at_10)) 32)), vi (Int.tmod (IntKind.i64.wrap (a - l2.at_10)) 32), vb true]) [])))) := by kernel_rfl
theorem ygz (xv : y03) (K : V → Heap → Prop) : (exF ya4 Tryz.f104 [.agg (y7k xv)] [] K) = (
    br (decide (xv.n ≥ xv.low)) (K (vb (decide (xv.n ≤ xv.high))) []) (K (vb false) [])) := by kernel_rfl
theorem yjb (y08 : Y48) (c : yb) (K : V → Heap → Prop) : (exF (ydk y08) Tryz.f67 [.agg (y1j c)] [] K) = (
    So (y08 (y03.mk c.Workers 1 64)) (fun (y0 : Bool) => (br (!y0) (K (vi 2) []) (So (y08 (y03.mk c.CPUs 1 8)) (fun (y1 : Bool) => (br (!y1) (K (vi 2) []) (So (y08 (y03.mk c.Pages 1 256)) (fun (y2 : Bool) => (br (!y2) (K (vi 2) []) (So (y08 (y03.mk c.Stripes 1 64)) (fun (y3 : Bool) => (br (!y3) (K (vi 2) []) (So (y08 (y03.mk c.Tries 0 16)) (fun (y4 : Bool) => (br (!y4) (K (vi 2) []) (So (y08 (y03.mk c.Wait 0 64)) (fun (y5 : Bool) => (br (!y5) (K (vi 2) []) (So (y08 (y03.mk c.Clock 1 1099511627776)) (fun (y6 : Bool) => (br (!y6) (K (vi 2) []) (So (y08 (y03.mk c.Private 1 8)) (fun (y7 : Bool) => (br (!y7) (K (vi 2) []) (So (y08 (y03.mk c.Cache 0 8)) (fun (y8 : Bool) => (br (!y8) (K (vi 2) []) (So (y08 (y03.mk c.Bin 0 16)) (fun (y9 : Bool) => (br (!y9) (K (vi 2) []) (So (y08 (y03.mk c.Batch 1 8)) (fun (y10 : Bool) => (br (!y10) (K (vi 2) []) (K (vi 0) [])))))))))))))))))))))))))))))))))) := by kernel_rfl
theorem yf0 (y2f : yb → Option Int) (y1b : Y4) (c : yb) (K : V → Heap → Prop) : (exF (ydc y2f y1b) Tryz.f33 [.agg (y1j c)] [] K) = (
    So (y2f c) (fun (y0 : Int) => (br (y0 != 0) (K (.tup [.agg [vi 0, vi 0, vi 0, vi 0, vi 0, vi 0, vi 0, vi 0, vi 0, vi 0, vi 0, vi 0, vi 0, vi 0, vi 0, vi 0, vi 0, vi 0, vi 0, vi 0, vi 0, vi 0, vi 0], vi y0]) []) (So (y1b c.Pages) (fun (y1 : Int) => (K (.tup [.agg (y1j c ++ [vi (IntKind.i64.wrap (3 + c.Stripes)), vi (IntKind.i64.wrap (IntKind.i64.wrap (3 + c.Stripes) + y1)), vi (IntKind.i64.wrap (IntKind.i64.wrap (IntKind.i64.wrap (3 + c.Stripes) + y1) + c.Pages)), vi (IntKind.i64.wrap (IntKind.i64.wrap (IntKind.i64.wrap (IntKind.i64.wrap (3 + c.Stripes) + y1) + c.Pages) + c.Pages)), vi (IntKind.i64.wrap (IntKind.i64.wrap (IntKind.i64.wrap (IntKind.i64.wrap (IntKind.i64.wrap (3 + c.Stripes) + y1) + c.Pages) + c.Pages) + c.Pages)), vi (IntKind.i64.wrap (IntKind.i64.wrap (IntKind.i64.wrap (IntKind.i64.wrap (IntKind.i64.wrap (IntKind.i64.wrap (3 + c.Stripes) + y1) + c.Pages) + c.Pages) + c.Pages) + c.Pages)), vi (IntKind.i64.wrap (IntKind.i64.wrap (IntKind.i64.wrap (IntKind.i64.wrap (IntKind.i64.wrap (IntKind.i64.wrap (IntKind.i64.wrap (3 + c.Stripes) + y1) + c.Pages) + c.Pages) + c.Pages) + c.Pages) + c.Pages)), vi (IntKind.i64.wrap (IntKind.i64.wrap (IntKind.i64.wrap (IntKind.i64.wrap (IntKind.i64.wrap (IntKind.i64.wrap (IntKind.i64.wrap (IntKind.i64.wrap (3 + c.Stripes) + y1) + c.Pages) + c.Pages) + c.Pages) + c.Pages) + c.Pages) + 62)), vi (IntKind.i64.wrap (IntKind.i64.wrap (IntKind.i64.wrap (IntKind.i64.wrap (IntKind.i64.wrap (IntKind.i64.wrap (IntKind.i64.wrap (IntKind.i64.wrap (IntKind.i64.wrap (3 + c.Stripes) + y1) + c.Pages) + c.Pages) + c.Pages) + c.Pages) + c.Pages) + 62) + IntKind.i64.wrap (IntKind.i64.wrap (c.CPUs * 5) * IntKind.i64.wrap (c.Cache + 1)))), vi (IntKind.i64.wrap (IntKind.i64.wrap (IntKind.i64.wrap (IntKind.i64.wrap (IntKind.i64.wrap (IntKind.i64.wrap (IntKind.i64.wrap (IntKind.i64.wrap (IntKind.i64.wrap (IntKind.i64.wrap (3 + c.Stripes) + y1) + c.Pages) + c.Pages) + c.Pages) + c.Pages) + c.Pages) + 62) + IntKind.i64.wrap (IntKind.i64.wrap (c.CPUs * 5) * IntKind.i64.wrap (c.Cache + 1))) + IntKind.i64.wrap (5 * IntKind.i64.wrap (c.Bin + 1)))), vi (IntKind.i64.wrap (IntKind.i64.wrap (Int.tdiv (IntKind.i64.wrap (IntKind.i64.wrap (IntKind.i64.wrap (IntKind.i64.wrap (IntKind.i64.wrap (IntKind.i64.wrap (IntKind.i64.wrap (IntKind.i64.wrap (IntKind.i64.wrap (IntKind.i64.wrap (IntKind.i64.wrap (IntKind.i64.wrap (IntKind.i64.wrap (3 + c.Stripes) + y1) + c.Pages) + c.Pages) + c.Pages) + c.Pages) + c.Pages) + 62) + IntKind.i64.wrap (IntKind.i64.wrap (c.CPUs * 5) * IntKind.i64.wrap (c.Cache + 1))) + IntKind.i64.wrap (5 * IntKind.i64.wrap (c.Bin + 1))) + IntKind.i64.wrap (c.Pages * 32)) + 128) - 1)) 128) * 128)), vi (IntKind.i64.wrap (IntKind.i64.wrap (IntKind.i64.wrap (Int.tdiv (IntKind.i64.wrap (IntKind.i64.wrap (IntKind.i64.wrap (IntKind.i64.wrap (IntKind.i64.wrap (IntKind.i64.wrap (IntKind.i64.wrap (IntKind.i64.wrap (IntKind.i64.wrap (IntKind.i64.wrap (IntKind.i64.wrap (IntKind.i64.wrap (IntKind.i64.wrap (3 + c.Stripes) + y1) + c.Pages) + c.Pages) + c.Pages) + c.Pages) + c.Pages) + 62) + IntKind.i64.wrap (IntKind.i64.wrap (c.CPUs * 5) * IntKind.i64.wrap (c.Cache + 1))) + IntKind.i64.wrap (5 * IntKind.i64.wrap (c.Bin + 1))) + IntKind.i64.wrap (c.Pages * 32)) + 128) - 1)) 128) * 128) + IntKind.i64.wrap (c.Pages * 32)))]), vi 0]) [])))))) := by kernel_rfl
def yh (l2 : ya) : Option yb :=
  some l2.c
def y37 (l2 : ya) : Option Int :=
  some l2.at_11
def y0a (l2 : ya) : Option Int :=
  some l2.at_10
def y1b (pages : Int) : Option Int :=
  some (IntKind.i64.wrap (Int.tdiv (IntKind.i64.wrap (IntKind.i64.wrap (pages + 4) - 1)) 4))
def y0x (l2 : ya) : Option Int :=
  ((y1b l2.c.Pages).bind fun y0 => some y0)
def y0v (l2 : ya) (k : Int) : Option Int :=
  ((y0x l2).bind fun y0 => (bif (decide (k < 0)) then some 0 else (bif (decide (k ≥ y0)) then some 0 else some (IntKind.i64.wrap (l2.at_0 + k)))))
def y02 (l2 : ya) (p : Int) : Option Int :=
  (bif (decide (p < 0)) then some 0 else (bif (decide (p ≥ l2.c.Pages)) then some 0 else some (IntKind.i64.wrap (l2.at_1 + p))))
def yr (l2 : ya) (p : Int) : Option Int :=
  (bif (decide (p < 0)) then some 0 else (bif (decide (p ≥ l2.c.Pages)) then some 0 else some (IntKind.i64.wrap (l2.at_2 + p))))
def ym (l2 : ya) (p : Int) : Option Int :=
  (bif (decide (p < 0)) then some 0 else (bif (decide (p ≥ l2.c.Pages)) then some 0 else some (IntKind.i64.wrap (l2.at_3 + p))))
def yw (l2 : ya) (p : Int) : Option Int :=
  (bif (decide (p < 0)) then some 0 else (bif (decide (p ≥ l2.c.Pages)) then some 0 else some (IntKind.i64.wrap (l2.at_4 + p))))
def y05 (l2 : ya) (p : Int) : Option Int :=
  (bif (decide (p < 0)) then some 0 else (bif (decide (p ≥ l2.c.Pages)) then some 0 else some (IntKind.i64.wrap (l2.at_5 + p))))
def y2i (l2 : ya) (c : Int) : Option Bool :=
  (bif (l2.c.Pages == 0) then some true else (bif (decide (c < 0)) then some true else some (decide (c ≥ 5))))
def y06 (l2 : ya) (c f : Int) : Option Int :=
  ((y2i l2 c).bind fun y0 => (bif y0 then some 0 else (bif (decide (0 ≤ c)) then (bif (decide (f < 1)) then some 0 else (bif (decide (f > 32 / 2 ^ Min.min (Int.toNat c) (IntKind.bits IntKind.i64))) then some 0 else some (IntKind.i64.wrap (IntKind.i64.wrap (IntKind.i64.wrap (l2.at_6 + IntKind.i64.wrap (64 - IntKind.i64.wrap (2 * (32 / 2 ^ Min.min (Int.toNat c) (IntKind.bits IntKind.i64))))) + f) - 1)))) else none)))
def y1x (l2 : ya) (a : Int) : Option Bool :=
  (bif (decide (a ≥ l2.at_10)) then some (decide (a < l2.at_11)) else some false)
def y2h (l2 : ya) (p : Int) : Option Int :=
  (bif (decide (p < 0)) then some 0 else (bif (decide (p ≥ l2.c.Pages)) then some 0 else some (IntKind.i64.wrap (l2.at_10 + IntKind.i64.wrap (p * 32)))))
def y2g (l2 : ya) (a : Int) : Option (Int × Int × Bool) :=
  ((y1x l2 a).bind fun y0 => (bif (!y0) then some (0, 0, false) else some ((IntKind.i64.wrap (Int.tdiv (IntKind.i64.wrap (a - l2.at_10)) 32)), (Int.tmod (IntKind.i64.wrap (a - l2.at_10)) 32), true)))
def y08 (xv : y03) : Option Bool :=
  (bif (decide (xv.n ≥ xv.low)) then some (decide (xv.n ≤ xv.high)) else some false)
def y2f (c : yb) : Option Int :=
  ((y08 (y03.mk c.Workers 1 64)).bind fun y0 => (bif (!y0) then some 2 else ((y08 (y03.mk c.CPUs 1 8)).bind fun y1 => (bif (!y1) then some 2 else ((y08 (y03.mk c.Pages 1 256)).bind fun y2 => (bif (!y2) then some 2 else ((y08 (y03.mk c.Stripes 1 64)).bind fun y3 => (bif (!y3) then some 2 else ((y08 (y03.mk c.Tries 0 16)).bind fun y4 => (bif (!y4) then some 2 else ((y08 (y03.mk c.Wait 0 64)).bind fun y5 => (bif (!y5) then some 2 else ((y08 (y03.mk c.Clock 1 1099511627776)).bind fun y6 => (bif (!y6) then some 2 else ((y08 (y03.mk c.Private 1 8)).bind fun y7 => (bif (!y7) then some 2 else ((y08 (y03.mk c.Cache 0 8)).bind fun y8 => (bif (!y8) then some 2 else ((y08 (y03.mk c.Bin 0 16)).bind fun y9 => (bif (!y9) then some 2 else ((y08 (y03.mk c.Batch 1 8)).bind fun y10 => (bif (!y10) then some 2 else some 0))))))))))))))))))))))
def y0w (c : yb) : Option (ya × Int) :=
  ((y2f c).bind fun y0 => (bif (y0 != 0) then some ((ya.mk (yb.mk 0 0 0 0 0 0 0 0 0 0 0) 0 0 0 0 0 0 0 0 0 0 0 0), y0) else ((y1b c.Pages).bind fun y1 => some ((ya.mk c (IntKind.i64.wrap (3 + c.Stripes)) (IntKind.i64.wrap (IntKind.i64.wrap (3 + c.Stripes) + y1)) (IntKind.i64.wrap (IntKind.i64.wrap (IntKind.i64.wrap (3 + c.Stripes) + y1) + c.Pages)) (IntKind.i64.wrap (IntKind.i64.wrap (IntKind.i64.wrap (IntKind.i64.wrap (3 + c.Stripes) + y1) + c.Pages) + c.Pages)) (IntKind.i64.wrap (IntKind.i64.wrap (IntKind.i64.wrap (IntKind.i64.wrap (IntKind.i64.wrap (3 + c.Stripes) + y1) + c.Pages) + c.Pages) + c.Pages)) (IntKind.i64.wrap (IntKind.i64.wrap (IntKind.i64.wrap (IntKind.i64.wrap (IntKind.i64.wrap (IntKind.i64.wrap (3 + c.Stripes) + y1) + c.Pages) + c.Pages) + c.Pages) + c.Pages)) (IntKind.i64.wrap (IntKind.i64.wrap (IntKind.i64.wrap (IntKind.i64.wrap (IntKind.i64.wrap (IntKind.i64.wrap (IntKind.i64.wrap (3 + c.Stripes) + y1) + c.Pages) + c.Pages) + c.Pages) + c.Pages) + c.Pages)) (IntKind.i64.wrap (IntKind.i64.wrap (IntKind.i64.wrap (IntKind.i64.wrap (IntKind.i64.wrap (IntKind.i64.wrap (IntKind.i64.wrap (IntKind.i64.wrap (3 + c.Stripes) + y1) + c.Pages) + c.Pages) + c.Pages) + c.Pages) + c.Pages) + 62)) (IntKind.i64.wrap (IntKind.i64.wrap (IntKind.i64.wrap (IntKind.i64.wrap (IntKind.i64.wrap (IntKind.i64.wrap (IntKind.i64.wrap (IntKind.i64.wrap (IntKind.i64.wrap (3 + c.Stripes) + y1) + c.Pages) + c.Pages) + c.Pages) + c.Pages) + c.Pages) + 62) + IntKind.i64.wrap (IntKind.i64.wrap (c.CPUs * 5) * IntKind.i64.wrap (c.Cache + 1)))) (IntKind.i64.wrap (IntKind.i64.wrap (IntKind.i64.wrap (IntKind.i64.wrap (IntKind.i64.wrap (IntKind.i64.wrap (IntKind.i64.wrap (IntKind.i64.wrap (IntKind.i64.wrap (IntKind.i64.wrap (3 + c.Stripes) + y1) + c.Pages) + c.Pages) + c.Pages) + c.Pages) + c.Pages) + 62) + IntKind.i64.wrap (IntKind.i64.wrap (c.CPUs * 5) * IntKind.i64.wrap (c.Cache + 1))) + IntKind.i64.wrap (5 * IntKind.i64.wrap (c.Bin + 1)))) (IntKind.i64.wrap (IntKind.i64.wrap (Int.tdiv (IntKind.i64.wrap (IntKind.i64.wrap (IntKind.i64.wrap (IntKind.i64.wrap (IntKind.i64.wrap (IntKind.i64.wrap (IntKind.i64.wrap (IntKind.i64.wrap (IntKind.i64.wrap (IntKind.i64.wrap (IntKind.i64.wrap (IntKind.i64.wrap (IntKind.i64.wrap (3 + c.Stripes) + y1) + c.Pages) + c.Pages) + c.Pages) + c.Pages) + c.Pages) + 62) + IntKind.i64.wrap (IntKind.i64.wrap (c.CPUs * 5) * IntKind.i64.wrap (c.Cache + 1))) + IntKind.i64.wrap (5 * IntKind.i64.wrap (c.Bin + 1))) + IntKind.i64.wrap (c.Pages * 32)) + 128) - 1)) 128) * 128)) (IntKind.i64.wrap (IntKind.i64.wrap (IntKind.i64.wrap (Int.tdiv (IntKind.i64.wrap (IntKind.i64.wrap (IntKind.i64.wrap (IntKind.i64.wrap (IntKind.i64.wrap (IntKind.i64.wrap (IntKind.i64.wrap (IntKind.i64.wrap (IntKind.i64.wrap (IntKind.i64.wrap (IntKind.i64.wrap (IntKind.i64.wrap (IntKind.i64.wrap (3 + c.Stripes) + y1) + c.Pages) + c.Pages) + c.Pages) + c.Pages) + c.Pages) + 62) + IntKind.i64.wrap (IntKind.i64.wrap (c.CPUs * 5) * IntKind.i64.wrap (c.Cache + 1))) + IntKind.i64.wrap (5 * IntKind.i64.wrap (c.Bin + 1))) + IntKind.i64.wrap (c.Pages * 32)) + 128) - 1)) 128) * 128) + IntKind.i64.wrap (c.Pages * 32)))), 0))))
attribute [local irreducible] Loop ex exF contK roundK retK at_ bodyOf mkEnv
theorem y3m : SpecOK Tryz.prog elTT 17 (y3h yh) := by
  refine spec_of_exF (cfg := yd1) (yg rfl rfl rfl) yk (fn := Tryz.f17) (by kernel_rfl) (by kernel_rfl) (by kernel_rfl) ?_
  intro args H K h
  change y7m yh args H K at h
  unfold y7m at h
  repeat first | (obtain ⟨_, h⟩ := h) | replace h := Des.el h
  subst_vars
  refine Eq.mpr (yhm _ K) ?_
  unfold yh at h
  revert h
  exact fun h => h
theorem yf8 : SpecOK Tryz.prog elTT 34 (yba y37) := by
  refine spec_of_exF (cfg := yab) (yg rfl rfl rfl) yk (fn := Tryz.f34) (by kernel_rfl) (by kernel_rfl) (by kernel_rfl) ?_
  intro args H K h
  change y7r y37 args H K at h
  unfold y7r at h
  repeat first | (obtain ⟨_, h⟩ := h) | replace h := Des.el h
  subst_vars
  refine Eq.mpr (yih _ K) ?_
  unfold y37 at h
  revert h
  exact fun h => h
theorem ycz : SpecOK Tryz.prog elTT 36 (y6w y0a) := by
  refine spec_of_exF (cfg := yeg) (yg rfl rfl rfl) yk (fn := Tryz.f36) (by kernel_rfl) (by kernel_rfl) (by kernel_rfl) ?_
  intro args H K h
  change y8h y0a args H K at h
  unfold y8h at h
  repeat first | (obtain ⟨_, h⟩ := h) | replace h := Des.el h
  subst_vars
  refine Eq.mpr (yfg _ K) ?_
  unfold y0a at h
  revert h
  exact fun h => h
theorem yb3 : SpecOK Tryz.prog elTT 68 (y85 y1b) := by
  refine spec_of_exF (cfg := yc0) (yg rfl rfl rfl) yk (fn := Tryz.f68) (by kernel_rfl) (by kernel_rfl) (by kernel_rfl) ?_
  intro args H K h
  change y7a y1b args H K at h
  unfold y7a at h
  repeat first | (obtain ⟨_, h⟩ := h) | replace h := Des.el h
  subst_vars
  refine Eq.mpr (yh1 _ K) ?_
  unfold y1b at h
  revert h
  exact fun h => h
theorem yci : SpecOK Tryz.prog elTT 165 (y60 y0x) := by
  refine spec_of_exF (cfg := (yd6 y1b)) (yg rfl rfl rfl) (yd yb3 yk) (fn := Tryz.f165) (by kernel_rfl) (by kernel_rfl) (by kernel_rfl) ?_
  intro args H K h
  change y9c y0x args H K at h
  unfold y9c at h
  repeat first | (obtain ⟨_, h⟩ := h) | replace h := Des.el h
  subst_vars
  refine Eq.mpr (yha y1b _ K) ?_
  unfold y0x at h
  revert h
  exact bind_So fun y0 => fun h => h
theorem yaj : SpecOK Tryz.prog elTT 162 (y80 y0v) := by
  refine spec_of_exF (cfg := (ydz y0x)) (yg rfl rfl rfl) (yd yci (yd (inlS_ok (cfg := cfgB) (yg rfl rfl rfl) (nosig rfl) (by kernel_rfl) (by kernel_rfl) (by kernel_rfl)) yk)) (fn := Tryz.f162) (by kernel_rfl) (by kernel_rfl) (by kernel_rfl) ?_
  intro args H K h
  change y7q y0v args H K at h
  unfold y7q at h
  repeat first | (obtain ⟨_, h⟩ := h) | replace h := Des.el h
  subst_vars
  refine Eq.mpr (yfc y0x _ _ K) ?_
  unfold y0v at h
  revert h
  exact bind_So fun y0 => br_So (fun h => h) (br_So (fun h => h) (fun h => h))
theorem y8q : SpecOK Tryz.prog elTT 18 (y5e y02) := by
  refine spec_of_exF (cfg := ycc) (yg rfl rfl rfl) (yd (inlS_ok (cfg := cfgB) (yg rfl rfl rfl) (nosig rfl) (by kernel_rfl) (by kernel_rfl) (by kernel_rfl)) yk) (fn := Tryz.f18) (by kernel_rfl) (by kernel_rfl) (by kernel_rfl) ?_
  intro args H K h
  change y63 y02 args H K at h
  unfold y63 at h
  repeat first | (obtain ⟨_, h⟩ := h) | replace h := Des.el h
  subst_vars
  refine Eq.mpr (yft _ _ K) ?_
  unfold y02 at h
  revert h
  exact br_So (fun h => h) (br_So (fun h => h) (fun h => h))
theorem y4i : SpecOK Tryz.prog elTT 31 (y48 yr) := by
  refine spec_of_exF (cfg := ye9) (yg rfl rfl rfl) (yd (inlS_ok (cfg := cfgB) (yg rfl rfl rfl) (nosig rfl) (by kernel_rfl) (by kernel_rfl) (by kernel_rfl)) yk) (fn := Tryz.f31) (by kernel_rfl) (by kernel_rfl) (by kernel_rfl) ?_
  intro args H K h
  change y6r yr args H K at h
  unfold y6r at h
  repeat first | (obtain ⟨_, h⟩ := h) | replace h := Des.el h
  subst_vars
  refine Eq.mpr (yj2 _ _ K) ?_
  unfold yr at h
  revert h
  exact br_So (fun h => h) (br_So (fun h => h) (fun h => h))
theorem y50 : SpecOK Tryz.prog elTT 22 (y49 ym) := by
  refine spec_of_exF (cfg := yd7) (yg rfl rfl rfl) (yd (inlS_ok (cfg := cfgB) (yg rfl rfl rfl) (nosig rfl) (by kernel_rfl) (by kernel_rfl) (by kernel_rfl)) yk) (fn := Tryz.f22) (by kernel_rfl) (by kernel_rfl) (by kernel_rfl) ?_
  intro args H K h
  change y6o ym args H K at h
  unfold y6o at h
  repeat first | (obtain ⟨_, h⟩ := h) | replace h := Des.el h
  subst_vars
  refine Eq.mpr (yhg _ _ K) ?_
  unfold ym at h
  revert h
  exact br_So (fun h => h) (br_So (fun h => h) (fun h => h))
theorem y7n : SpecOK Tryz.prog elTT 139 (y5j yw) := by
  refine spec_of_exF (cfg := ybf) (yg rfl rfl rfl) (yd (inlS_ok (cfg := cfgB) (yg rfl rfl rfl) (nosig rfl) (by kernel_rfl) (by kernel_rfl) (by kernel_rfl)) yk) (fn := Tryz.f139) (by kernel_rfl) (by kernel_rfl) (by kernel_rfl) ?_
  intro args H K h
  change y6d yw args H K at h
  unfold y6d at h
  repeat first | (obtain ⟨_, h⟩ := h) | replace h := Des.el h
  subst_vars
  refine Eq.mpr (yi2 _ _ K) ?_
  unfold yw at h
  revert h
  exact br_So (fun h => h) (br_So (fun h => h) (fun h => h))
theorem yd5 : SpecOK Tryz.prog elTT 138 (y9g y05) := by
  refine spec_of_exF (cfg := yat) (yg rfl rfl rfl) (yd (inlS_ok (cfg := cfgB) (yg rfl rfl rfl) (nosig rfl) (by kernel_rfl) (by kernel_rfl) (by kernel_rfl)) yk) (fn := Tryz.f138) (by kernel_rfl) (by kernel_rfl) (by kernel_rfl) ?_
  intro args H K h
  change y70 y05 args H K at h
  unfold y70 at h
  repeat first | (obtain ⟨_, h⟩ := h) | replace h := Des.el h
  subst_vars
  refine Eq.mpr (yf9 _ _ K) ?_
  unfold y05 at h
  revert h
  exact br_So (fun h => h) (br_So (fun h => h) (fun h => h))
theorem yje : SpecOK Tryz.prog elTT 125 (yal y2i) := by
  refine spec_of_exF (cfg := ydt) (yg rfl rfl rfl) yk (fn := Tryz.f125) (by kernel_rfl) (by kernel_rfl) (by kernel_rfl) ?_
  intro args H K h
  change y9a y2i args H K at h
  unfold y9a at h
  repeat first | (obtain ⟨_, h⟩ := h) | replace h := Des.el h
  subst_vars
  refine Eq.mpr (yia _ _ K) ?_
  unfold y2i at h
  revert h
  exact br_So (fun h => h) (br_So (fun h => h) (fun h => h))
theorem yaz : SpecOK Tryz.prog elTT 93 (y81 y06) := by
  refine spec_of_exF (cfg := (yby y2i)) (yg rfl rfl rfl) (yd yje yk) (fn := Tryz.f93) (by kernel_rfl) (by kernel_rfl) (by kernel_rfl) ?_
  intro args H K h
  change y77 y06 args H K at h
  unfold y77 at h
  repeat first | (obtain ⟨_, h⟩ := h) | replace h := Des.el h
  subst_vars
  refine Eq.mpr (yjh y2i _ _ _ K) ?_
  unfold y06 at h
  revert h
  exact bind_So fun y0 => br_So (fun h => h) (req_So (br_So (fun h => h) (br_So (fun h => h) (fun h => h))))
theorem yga : SpecOK Tryz.prog elTT 60 (yax y1x) := by
  refine spec_of_exF (cfg := yc7) (yg rfl rfl rfl) yk (fn := Tryz.f60) (by kernel_rfl) (by kernel_rfl) (by kernel_rfl) ?_
  intro args H K h
  change y8p y1x args H K at h
  unfold y8p at h
  repeat first | (obtain ⟨_, h⟩ := h) | replace h := Des.el h
  subst_vars
  refine Eq.mpr (yh7 _ _ K) ?_
  unfold y1x at h
  revert h
  exact br_So (fun h => h) (fun h => h)
theorem yf1 : SpecOK Tryz.prog elTT 59 (yeb y2h) := by
  refine spec_of_exF (cfg := ycd) (yg rfl rfl rfl) yk (fn := Tryz.f59) (by kernel_rfl) (by kernel_rfl) (by kernel_rfl) ?_
  intro args H K h
  change y8z y2h args H K at h
  unfold y8z at h
  repeat first | (obtain ⟨_, h⟩ := h) | replace h := Des.el h
  subst_vars
  refine Eq.mpr (yhf _ _ K) ?_
  unfold y2h at h
  revert h
  exact br_So (fun h => h) (br_So (fun h => h) (fun h => h))
theorem ygc : SpecOK Tryz.prog elTT 26 (ybl y2g) := by
  refine spec_of_exF (cfg := (ydv y1x)) (yg rfl rfl rfl) (yd yga yk) (fn := Tryz.f26) (by kernel_rfl) (by kernel_rfl) (by kernel_rfl) ?_
  intro args H K h
  change y6t y2g args H K at h
  unfold y6t at h
  repeat first | (obtain ⟨_, h⟩ := h) | replace h := Des.el h
  subst_vars
  refine Eq.mpr (yj9 y1x _ _ K) ?_
  unfold y2g at h
  revert h
  exact bind_So fun y0 => br_So (fun h => h) (fun h => h)
theorem ygd : SpecOK Tryz.prog elTT 104 (ydp y08) := by
  refine spec_of_exF (cfg := ya4) (yg rfl rfl rfl) yk (fn := Tryz.f104) (by kernel_rfl) (by kernel_rfl) (by kernel_rfl) ?_
  intro args H K h
  change y94 y08 args H K at h
  unfold y94 at h
  repeat first | (obtain ⟨_, h⟩ := h) | replace h := Des.el h
  subst_vars
  refine Eq.mpr (ygz _ K) ?_
  unfold y08 at h
  revert h
  exact br_So (fun h => h) (fun h => h)
theorem yij : SpecOK Tryz.prog elTT 67 (ye0 y2f) := by
  refine spec_of_exF (cfg := (ydk y08)) (yg rfl rfl rfl) (yd ygd yk) (fn := Tryz.f67) (by kernel_rfl) (by kernel_rfl) (by kernel_rfl) ?_
  intro args H K h
  change y6s y2f args H K at h
  unfold y6s at h
  repeat first | (obtain ⟨_, h⟩ := h) | replace h := Des.el h
  subst_vars
  refine Eq.mpr (yjb y08 _ K) ?_
  unfold y2f at h
  revert h
  exact bind_So fun y0 => br_So (fun h => h) (bind_So fun y1 => br_So (fun h => h) (bind_So fun y2 => br_So (fun h => h) (bind_So fun y3 => br_So (fun h => h) (bind_So fun y4 => br_So (fun h => h) (bind_So fun y5 => br_So (fun h => h) (bind_So fun y6 => br_So (fun h => h) (bind_So fun y7 => br_So (fun h => h) (bind_So fun y8 => br_So (fun h => h) (bind_So fun y9 => br_So (fun h => h) (bind_So fun y10 => br_So (fun h => h) (fun h => h)))))))))))
theorem ybu : SpecOK Tryz.prog elTT 33 (y6p y0w) := by
  refine spec_of_exF (cfg := (ydc y2f y1b)) (yg rfl rfl rfl) (yd yij (yd yb3 yk)) (fn := Tryz.f33) (by kernel_rfl) (by kernel_rfl) (by kernel_rfl) ?_
  intro args H K h
  change y61 y0w args H K at h
  unfold y61 at h
  repeat first | (obtain ⟨_, h⟩ := h) | replace h := Des.el h
  subst_vars
  refine Eq.mpr (yf0 y2f y1b _ K) ?_
  unfold y0w at h
  revert h
  exact bind_So fun y0 => br_So (fun h => h) (bind_So fun y1 => fun h => h)
end Go.Rx
end

noncomputable section
namespace Go.Rx
open Go.Proofs
set_option maxRecDepth 100000
set_option maxHeartbeats 4000000
def y6u (m_ : Y4) (args : List V) (H : Heap) (K : V → Heap → Prop) : Prop :=
  aC args fun a0 r => aN r <| aInt a0 fun p => aN H <| So (m_ p) fun x => K (vi x) []
def y8x (m_ : Y4) : Spec := ⟨y6u m_, (true : Bool)⟩
abbrev Y40 := yo → Option Bool
def y6a (m_ : Y40) (args : List V) (H : Heap) (K : V → Heap → Prop) : Prop :=
  aC args fun a0 r => aN r <| aAgg a0 fun c0 => y3t c0 fun xv => aN H <| So (m_ xv) fun x => K (vb x) []
def y5a (m_ : Y40) : Spec := ⟨y6a m_, (true : Bool)⟩
abbrev Y47 := yo → Option (Int × Int)
def y8o (m_ : Y47) (args : List V) (H : Heap) (K : V → Heap → Prop) : Prop :=
  aC args fun a0 r => aN r <| aAgg a0 fun c0 => y3t c0 fun xv => aN H <| So (m_ xv) fun x => K (.tup [vi x.1, vi x.2]) []
def y9z (m_ : Y47) : Spec := ⟨y8o m_, (true : Bool)⟩
abbrev Y38 := ya → Int → Option (Int × Int)
def y8n (m_ : Y38) (args : List V) (H : Heap) (K : V → Heap → Prop) : Prop :=
  aC args fun a0 r => aC r fun a1 r => aN r <| aAgg a0 fun c0 => yq c0 fun l2 => aInt a1 fun k => aN H <| So (m_ l2 k) fun x => K (.tup [vi x.1, vi x.2]) []
def ydx (m_ : Y38) : Spec := ⟨y8n m_, (true : Bool)⟩
abbrev Y31 := ya → Int → Int → Option (Int × Int × Bool)
def y6q (m_ : Y31) (args : List V) (H : Heap) (K : V → Heap → Prop) : Prop :=
  aC args fun a0 r => aC r fun a1 r => aC r fun a2 r => aN r <| aAgg a0 fun c0 => yq c0 fun l2 => aInt a1 fun p => aInt a2 fun n => aN H <| So (m_ l2 p n) fun x => K (.tup [vi x.1, vi x.2.1, vb x.2.2]) []
def ybd (m_ : Y31) : Spec := ⟨y6q m_, (true : Bool)⟩
abbrev Y27 := Nat → (List Int) → yo → Int → Option Bool
def y91 (m_ : Y27) (args : List V) (H : Heap) (K : V → Heap → Prop) : Prop :=
  aC args fun a0 r => aC r fun a1 r => aC r fun a2 r => aN r <| aAgg a0 fun c0 => y3t c0 fun xv => aPtr 0 a1 <| aInt a2 fun state => aC H fun b0 r => aC r fun b1 r => aN r <| bView 1 b0 fun ws cur xs => bRow 0 true b1 fun (l : List Int) => ws = l ∧ xs.length ≤ 2 ∧ So (m_ ws.length cur xv state) fun x => K (vb x) [.pk 0 [ws, cur] xs [.row 1], .row 0 l true]
def y8j (m_ : Y27) : Spec := ⟨y91 m_, (true : Bool)⟩
abbrev Y28 := Nat → (List Int) → yo → Int → Option (Bool × (List Int))
def y7c (m_ : Y28) (args : List V) (H : Heap) (K : V → Heap → Prop) : Prop :=
  aC args fun a0 r => aC r fun a1 r => aC r fun a2 r => aN r <| aAgg a0 fun c0 => y3t c0 fun xv => aPtr 0 a1 <| aInt a2 fun state => aC H fun b0 r => aC r fun b1 r => aN r <| bView 1 b0 fun ws cur xs => bRow 0 true b1 fun (l : List Int) => ws = l ∧ xs.length ≤ 2 ∧ So (m_ ws.length cur xv state) fun x => K (vb x.1) [.pk 0 [ws, x.2] xs [.row 1], .row 0 l true]
def yda (m_ : Y28) : Spec := ⟨y7c m_, (true : Bool)⟩
abbrev Y10 := Nat → (List Int) → ya → Int → Option (Bool × (List Int))
def y6v (m_ : Y10) (args : List V) (H : Heap) (K : V → Heap → Prop) : Prop :=
  aC args fun a0 r => aC r fun a1 r => aC r fun a2 r => aN r <| aPtr 0 a0 <| aAgg a1 fun c1 => yq c1 fun l2 => aInt a2 fun k => aC H fun b0 r => aC r fun b1 r => aN r <| bView 1 b0 fun ws cur xs => bRow 0 true b1 fun (l : List Int) => ws = l ∧ xs.length ≤ 2 ∧ So (m_ ws.length cur l2 k) fun x => K (vb x.1) [.pk 0 [ws, x.2] xs [.row 1], .row 0 l true]
def ybw (m_ : Y10) : Spec := ⟨y6v m_, (true : Bool)⟩
abbrev Y19 := Nat → (List Int) → ya → Int → Option Bool
def y72 (m_ : Y19) (args : List V) (H : Heap) (K : V → Heap → Prop) : Prop :=
  aC args fun a0 r => aC r fun a1 r => aC r fun a2 r => aN r <| aPtr 0 a0 <| aAgg a1 fun c1 => yq c1 fun l2 => aInt a2 fun k => aC H fun b0 r => aC r fun b1 r => aN r <| bView 1 b0 fun ws cur xs => bRow 0 true b1 fun (l : List Int) => ws = l ∧ xs.length ≤ 2 ∧ So (m_ ws.length cur l2 k) fun x => K (vb x) [.pk 0 [ws, cur] xs [.row 1], .row 0 l true]
def ya7 (m_ : Y19) : Spec := ⟨y72 m_, (true : Bool)⟩
abbrev Y24 := Nat → (List Int) → ya → Int → Int → Option (Int × (List Int))
def y78 (m_ : Y24) (args : List V) (H : Heap) (K : V → Heap → Prop) : Prop :=
  aC args fun a0 r => aC r fun a1 r => aC r fun a2 r => aC r fun a3 r => aN r <| aPtr 0 a0 <| aAgg a1 fun c1 => yq c1 fun l2 => aInt a2 fun p => aInt a3 fun n => aC H fun b0 r => aC r fun b1 r => aN r <| bView 1 b0 fun ws cur xs => bRow 0 true b1 fun (l : List Int) => ws = l ∧ xs.length ≤ 2 ∧ So (m_ ws.length cur l2 p n) fun x => K (vi x.1) [.pk 0 [ws, x.2] xs [.row 1], .row 0 l true]
def yas (m_ : Y24) : Spec := ⟨y78 m_, (true : Bool)⟩
def ycg  : Cfg := { cfgB with
  sigs := sigN }
def ydh (y0x : Y26) : Cfg := { cfgB with
  sigs := (sigC 165 (y60 y0x) sigN),
  plan := fun r => match r with | 1 => some (List.range 12, 0) | _ => none }
def yb0 (y0d : Y40) (yh : Y22) : Cfg := { cfgB with
  sigs := (sigC 161 (y5a y0d) (sigC 17 (y3h yh) sigN)) }
def yae (y2o : Y47) : Cfg := { cfgB with
  sigs := (sigC 164 (y9z y2o) sigN) }
def yap (yh : Y22) (y0s : Y4) : Cfg := { cfgB with
  sigs := (sigC 17 (y3h yh) (sigC 129 (y8x y0s) sigN)) }
def yag (y0d : Y40) (y0v : Y1) : Cfg := { cfgB with
  sigs := (sigC 161 (y5a y0d) (sigC 162 (y80 y0v) (sigC 63 rdS sigN))) }
def yar (y0d : Y40) (y1a : Y27) (y0v : Y1) : Cfg := { cfgB with
  sigs := (sigC 161 (y5a y0d) (sigC 153 (y8j y1a) (sigC 162 (y80 y0v) (sigC 96 wrS sigN)))) }
def ya5 (y2e : Y28) : Cfg := { cfgB with
  sigs := (sigC 163 (yda y2e) sigN) }
def ya8 (y1a : Y27) : Cfg := { cfgB with
  sigs := (sigC 153 (y8j y1a) sigN) }
def y2t (y0q : Y31) (y0o : Y10) (y0p : Y38) : Cfg := { cfgB with
  sigs := (sigC 154 (ybd y0q) (sigC 155 (ybw y0o) (sigC 156 (ydx y0p) sigN))),
  keep := fun r => match r with | 4 => some [(0, none), (5, none), (10, none), (11, none), (12, none), (13, none)] | _ => none }
theorem yif (p : Int) (K : V → Heap → Prop) : (exF ycg Tryz.f129 [vi p] [] K) = (
    br (decide (p < 0)) (K (vi (-1)) []) (K (vi (IntKind.i64.wrap (Int.tdiv p 4))) [])) := by kernel_rfl
theorem yi0 (y0x : Y26) (xv : yo) (K : V → Heap → Prop) : (exF (ydh y0x) Tryz.f161 [.agg (y47 xv)] [] K) = (
    br (decide (xv.k ≥ 0)) (So (y0x xv.Layout) (fun (y0 : Int) => (K (vb (decide (xv.k < y0))) []))) (K (vb false) [])) := by kernel_rfl
theorem yfk (y0d : Y40) (yh : Y22) (xv : yo) (K : V → Heap → Prop) : (exF (yb0 y0d yh) Tryz.f164 [.agg (y47 xv)] [] K) = (
    So (y0d xv) (fun (y0 : Bool) => (br (!y0) (K (.tup [vi 0, vi 0]) []) (So (yh xv.Layout) (fun (y1 : yb) => (K (.tup [vi (IntKind.i64.wrap (xv.k * 4)), vi (if IntKind.i64.wrap (y1.Pages - IntKind.i64.wrap (xv.k * (4 : Int))) < (4 : Int) then IntKind.i64.wrap (y1.Pages - IntKind.i64.wrap (xv.k * (4 : Int))) else (4 : Int))]) [])))))) := by kernel_rfl
theorem yfh (y2o : Y47) (l2 : ya) (k : Int) (K : V → Heap → Prop) : (exF (yae y2o) Tryz.f156 [.agg (yc l2), vi k] [] K) = (
    So (y2o (yo.mk l2 k)) (fun (y0 : Int × Int) => (K (.tup [vi y0.1, vi y0.2]) []))) := by kernel_rfl
theorem ygk (yh : Y22) (y0s : Y4) (l2 : ya) (p n : Int) (K : V → Heap → Prop) : (exF (yap yh y0s) Tryz.f154 [.agg (yc l2), vi p, vi n] [] K) = (
    So (yh l2) (fun (y0 : yb) => (br (decide (n < 1)) (K (.tup [vi 0, vi 0, vb false]) []) (br (decide (p < 0)) (K (.tup [vi 0, vi 0, vb false]) []) (br (decide (p ≥ y0.Pages)) (K (.tup [vi 0, vi 0, vb false]) []) (br (decide (n > IntKind.i64.wrap (y0.Pages - p))) (K (.tup [vi 0, vi 0, vb false]) []) (So (y0s p) (fun (y1 : Int) => (So (y0s (IntKind.i64.wrap (IntKind.i64.wrap (p + n) - 1))) (fun (y2 : Int) => (K (.tup [vi y1, vi y2, vb true]) []))))))))))) := by kernel_rfl
theorem yj3 (y0d : Y40) (y0v : Y1) (ws cur : List Int) (xs : List Value) (xv : yo) (state : Int) (K : V → Heap → Prop) : (exF (yag y0d y0v) Tryz.f153 [.agg (y47 xv), .ptr 0 0, vi state] (hV ws cur xs) K) = (
    So (y0d xv) (fun (y0 : Bool) => (br y0 (So (y0v xv.Layout xv.k) (fun (y1 : Int) => ((ws = ws) ∧ ((xs.length ≤ 2) ∧ (Req (inR y1 ws.length) (K (vb (rd cur y1 == state)) (hV ws cur xs))))))) (K (vb false) (hV ws cur xs))))) := by kernel_rfl
theorem yjq (y0d : Y40) (y1a : Y27) (y0v : Y1) (ws cur : List Int) (xs : List Value) (xv : yo) (state : Int) (K : V → Heap → Prop) : (exF (yar y0d y1a y0v) Tryz.f163 [.agg (y47 xv), .ptr 0 0, vi state] (hV ws cur xs) K) = (
    So (y0d xv) (fun (y0 : Bool) => (br (!y0) (K (vb false) (hV ws cur xs)) ((ws = ws) ∧ ((xs.length ≤ 2) ∧ (So (y1a ws.length cur xv 1) (fun (y1 : Bool) => (br (y1 == (state == 1)) (K (vb false) (hV ws cur xs)) (So (y0v xv.Layout xv.k) (fun (y2 : Int) => ((ws = ws) ∧ ((xs.length ≤ 2) ∧ (Req (inR y2 ws.length) (K (vb true) (hV ws (wr cur y2 state) xs))))))))))))))) := by kernel_rfl
theorem yen (y2e : Y28) (ws cur : List Int) (xs : List Value) (l2 : ya) (k : Int) (K : V → Heap → Prop) : (exF (ya5 y2e) Tryz.f155 [.ptr 0 0, .agg (yc l2), vi k] (hV ws cur xs) K) = (
    ((ws = ws) ∧ ((xs.length ≤ 2) ∧ (So (y2e ws.length cur (yo.mk l2 k) 1) (fun (y0 : Bool × List Int) => (K (vb y0.1) (hV ws y0.2 xs))))))) := by kernel_rfl
theorem yjj (y1a : Y27) (ws cur : List Int) (xs : List Value) (l2 : ya) (k : Int) (K : V → Heap → Prop) : (exF (ya8 y1a) Tryz.f128 [.ptr 0 0, .agg (yc l2), vi k] (hV ws cur xs) K) = (
    ((ws = ws) ∧ ((xs.length ≤ 2) ∧ (So (y1a ws.length cur (yo.mk l2 k) 1) (fun (y0 : Bool) => (K (vb y0) (hV ws cur xs))))))) := by kernel_rfl
theorem yj0 (y0q : Y31) (y0o : Y10) (y0p : Y38) (ws cur : List Int) (xs : List Value) (l2 : ya) (p n last : Int) (ok : Bool) (turned k : Int) (cur2 : List Int) (K : V → Heap → Prop) (J1 : Env → Heap → Prop) : (ex (y2t y0q y0o y0p) (⟨47, 2⟩ : Cx) (at_ (bodyOf Tryz.f132) [1, 1, 1, 0, 1, 0, 0]) (mkEnv [(0, .ptr 0 0), (5, .ptr 2 0), (10, vi last), (11, vb ok), (12, vi turned), (13, vi k)]) [.pk 0 [ws, cur2] xs [.row 1], .row 0 ws true, .cells 28 (yc l2)] (roundK (y2t y0q y0o y0p) (⟨47, 2⟩ : Cx) (at_ (bodyOf Tryz.f132) [1, 1, 1, 0, 1, 0, 0]) (contK (y2t y0q y0o y0p) (⟨47, 2⟩ : Cx) (bodyOf Tryz.f132) [1, 1, 1, 0, 1, 0] (retK (y2t y0q y0o y0p) Tryz.f132 2 K)) J1)) = (
    br ok (br (decide (k ≤ last)) ((ws = ws) ∧ ((xs.length ≤ 2) ∧ (So (y0o ws.length cur2 l2 k) (fun (y0 : Bool × List Int) => (br y0.1 (So (y0p l2 k) (fun (y1 : Int × Int) => (J1 (mkEnv [(0, .ptr 0 0), (5, .ptr 2 0), (10, vi last), (11, vb ok), (12, vi (IntKind.i64.wrap (turned + y1.2))), (13, vi (IntKind.i64.wrap (k + 1)))]) [.pk 0 [ws, y0.2] xs [.row 1], .row 0 ws true, .cells 28 (yc l2)]))) (J1 (mkEnv [(0, .ptr 0 0), (5, .ptr 2 0), (10, vi last), (11, vb ok), (12, vi turned), (13, vi (IntKind.i64.wrap (k + 1)))]) [.pk 0 [ws, y0.2] xs [.row 1], .row 0 ws true, .cells 28 (yc l2)])))))) (K (vi turned) (hV ws cur2 xs))) (K (vi turned) (hV ws cur2 xs))) := by kernel_rfl
theorem yg3 (y0q : Y31) (y0o : Y10) (y0p : Y38) (ws cur : List Int) (xs : List Value) (l2 : ya) (p n : Int) (K : V → Heap → Prop) : (exF (y2t y0q y0o y0p) Tryz.f132 [.ptr 0 0, .agg (yc l2), vi p, vi n] (hV ws cur xs) K) = (
    So (y0q l2 p n) (fun (y0 : Int × Int × Bool) => (Loop (y2t y0q y0o y0p) (⟨47, 2⟩ : Cx) (at_ (bodyOf Tryz.f132) [1, 1, 1, 0, 1, 0, 0]) (mkEnv [(0, .ptr 0 0), (5, .ptr 2 0), (10, vi y0.2.1), (11, vb y0.2.2), (12, vi 0), (13, vi y0.1)]) [.pk 0 [ws, cur] xs [.row 1], .row 0 ws true, .cells 28 (yc l2)] (contK (y2t y0q y0o y0p) (⟨47, 2⟩ : Cx) (bodyOf Tryz.f132) [1, 1, 1, 0, 1, 0] (retK (y2t y0q y0o y0p) Tryz.f132 2 K))))) := by kernel_rfl
def y0s (p : Int) : Option Int :=
  (bif (decide (p < 0)) then some (-1) else some (IntKind.i64.wrap (Int.tdiv p 4)))
def y0d (xv : yo) : Option Bool :=
  (bif (decide (xv.k ≥ 0)) then ((y0x xv.Layout).bind fun y0 => some (decide (xv.k < y0))) else some false)
def y2o (xv : yo) : Option (Int × Int) :=
  ((y0d xv).bind fun y0 => (bif (!y0) then some (0, 0) else ((yh xv.Layout).bind fun y1 => some ((IntKind.i64.wrap (xv.k * 4)), (if IntKind.i64.wrap (y1.Pages - IntKind.i64.wrap (xv.k * (4 : Int))) < (4 : Int) then IntKind.i64.wrap (y1.Pages - IntKind.i64.wrap (xv.k * (4 : Int))) else (4 : Int))))))
def y0p (l2 : ya) (k : Int) : Option (Int × Int) :=
  ((y2o (yo.mk l2 k)).bind fun y0 => some (y0.1, y0.2))
def y0q (l2 : ya) (p n : Int) : Option (Int × Int × Bool) :=
  ((yh l2).bind fun y0 => (bif (decide (n < 1)) then some (0, 0, false) else (bif (decide (p < 0)) then some (0, 0, false) else (bif (decide (p ≥ y0.Pages)) then some (0, 0, false) else (bif (decide (n > IntKind.i64.wrap (y0.Pages - p))) then some (0, 0, false) else ((y0s p).bind fun y1 => ((y0s (IntKind.i64.wrap (IntKind.i64.wrap (p + n) - 1))).bind fun y2 => some (y1, y2, true))))))))
def y1a (nw : Nat) (cur : List Int) (xv : yo) (state : Int) : Option Bool :=
  ((y0d xv).bind fun y0 => (bif y0 then ((y0v xv.Layout xv.k).bind fun y1 => (bif (inR y1 nw) then some (rd cur y1 == state) else none)) else some false))
def y2e (nw : Nat) (cur : List Int) (xv : yo) (state : Int) : Option (Bool × (List Int)) :=
  ((y0d xv).bind fun y0 => (bif (!y0) then some (false, cur) else ((y1a nw cur xv 1).bind fun y1 => (bif (y1 == (state == 1)) then some (false, cur) else ((y0v xv.Layout xv.k).bind fun y2 => (bif (inR y2 nw) then some (true, (wr cur y2 state)) else none))))))
def y0o (nw : Nat) (cur : List Int) (l2 : ya) (k : Int) : Option (Bool × (List Int)) :=
  ((y2e nw cur (yo.mk l2 k) 1).bind fun y0 => some (y0.1, y0.2))
def y2a (nw : Nat) (cur : List Int) (l2 : ya) (k : Int) : Option Bool :=
  ((y1a nw cur (yo.mk l2 k) 1).bind fun y0 => some y0)
def y4l (nw : Nat) (l2 : ya) (last : Int) (ok : Bool) (turned k : Int) (cur2 : List Int) : Option ((Int × Int × (List Int)) ⊕ (Int × (List Int))) :=
  (bif ok then (bif (decide (k ≤ last)) then ((y0o nw cur2 l2 k).bind fun y0 => (bif y0.1 then ((y0p l2 k).bind fun y1 => some (.inl ((IntKind.i64.wrap (turned + y1.2)), (IntKind.i64.wrap (k + 1)), y0.2))) else some (.inl (turned, (IntKind.i64.wrap (k + 1)), y0.2)))) else some (.inr (turned, cur2))) else some (.inr (turned, cur2)))
def ych (nw : Nat) (l2 : ya) (last : Int) (ok : Bool) (s : Int × Int × (List Int)) : Option (Int × (List Int)) :=
  loopO (fun s => y4l nw l2 last ok s.1 s.2.1 s.2.2) s
def y04 (nw : Nat) (cur : List Int) (l2 : ya) (p n : Int) : Option (Int × (List Int)) :=
  ((y0q l2 p n).bind fun y0 => (ych nw l2 y0.2.1 y0.2.2 (0, y0.1, cur)))
attribute [local irreducible] Loop ex exF contK roundK retK at_ bodyOf mkEnv
theorem ya2 : SpecOK Tryz.prog elTT 129 (y8x y0s) := by
  refine spec_of_exF (cfg := ycg) (yg rfl rfl rfl) yk (fn := Tryz.f129) (by kernel_rfl) (by kernel_rfl) (by kernel_rfl) ?_
  intro args H K h
  change y6u y0s args H K at h
  unfold y6u at h
  repeat first | (obtain ⟨_, h⟩ := h) | replace h := Des.el h
  subst_vars
  refine Eq.mpr (yif _ K) ?_
  unfold y0s at h
  revert h
  exact br_So (fun h => h) (fun h => h)
theorem y6i : SpecOK Tryz.prog elTT 161 (y5a y0d) := by
  refine spec_of_exF (cfg := (ydh y0x)) (yg rfl rfl rfl) (yd yci yk) (fn := Tryz.f161) (by kernel_rfl) (by kernel_rfl) (by kernel_rfl) ?_
  intro args H K h
  change y6a y0d args H K at h
  unfold y6a at h
  repeat first | (obtain ⟨_, h⟩ := h) | replace h := Des.el h
  subst_vars
  refine Eq.mpr (yi0 y0x _ K) ?_
  unfold y0d at h
  revert h
  exact br_So (bind_So fun y0 => fun h => h) (fun h => h)
theorem yh2 : SpecOK Tryz.prog elTT 164 (y9z y2o) := by
  refine spec_of_exF (cfg := (yb0 y0d yh)) (yg rfl rfl rfl) (yd y6i (yd y3m yk)) (fn := Tryz.f164) (by kernel_rfl) (by kernel_rfl) (by kernel_rfl) ?_
  intro args H K h
  change y8o y2o args H K at h
  unfold y8o at h
  repeat first | (obtain ⟨_, h⟩ := h) | replace h := Des.el h
  subst_vars
  refine Eq.mpr (yfk y0d yh _ K) ?_
  unfold y2o at h
  revert h
  exact bind_So fun y0 => br_So (fun h => h) (bind_So fun y1 => fun h => h)
theorem yh8 : SpecOK Tryz.prog elTT 156 (ydx y0p) := by
  refine spec_of_exF (cfg := (yae y2o)) (yg rfl rfl rfl) (yd yh2 yk) (fn := Tryz.f156) (by kernel_rfl) (by kernel_rfl) (by kernel_rfl) ?_
  intro args H K h
  change y8n y0p args H K at h
  unfold y8n at h
  repeat first | (obtain ⟨_, h⟩ := h) | replace h := Des.el h
  subst_vars
  refine Eq.mpr (yfh y2o _ _ K) ?_
  unfold y0p at h
  revert h
  exact bind_So fun y0 => fun h => h
theorem yji : SpecOK Tryz.prog elTT 154 (ybd y0q) := by
  refine spec_of_exF (cfg := (yap yh y0s)) (yg rfl rfl rfl) (yd y3m (yd ya2 yk)) (fn := Tryz.f154) (by kernel_rfl) (by kernel_rfl) (by kernel_rfl) ?_
  intro args H K h
  change y6q y0q args H K at h
  unfold y6q at h
  repeat first | (obtain ⟨_, h⟩ := h) | replace h := Des.el h
  subst_vars
  refine Eq.mpr (ygk yh y0s _ _ _ K) ?_
  unfold y0q at h
  revert h
  exact bind_So fun y0 => br_So (fun h => h) (br_So (fun h => h) (br_So (fun h => h) (br_So (fun h => h) (bind_So fun y1 => bind_So fun y2 => fun h => h))))
theorem ybc : SpecOK Tryz.prog elTT 153 (y8j y1a) := by
  refine spec_of_exF (cfg := (yag y0d y0v)) (yg rfl rfl rfl) (yd y6i (yd yaj (yd rd_ok yk))) (fn := Tryz.f153) (by kernel_rfl) (by kernel_rfl) (by kernel_rfl) ?_
  intro args H K h
  change y91 y1a args H K at h
  unfold y91 at h
  repeat first | (obtain ⟨_, h⟩ := h) | replace h := Des.el h
  subst_vars
  refine Eq.mpr (yj3 y0d y0v _ _ _ _ _ K) ?_
  unfold y1a at h
  revert h
  exact bind_So fun y0 => br_So (bind_So fun y1 => andV (by assumption) (req_So (fun h => h))) (fun h => h)
theorem yfw : SpecOK Tryz.prog elTT 163 (yda y2e) := by
  refine spec_of_exF (cfg := (yar y0d y1a y0v)) (yg rfl rfl rfl) (yd y6i (yd ybc (yd yaj (yd wr_ok yk)))) (fn := Tryz.f163) (by kernel_rfl) (by kernel_rfl) (by kernel_rfl) ?_
  intro args H K h
  change y7c y2e args H K at h
  unfold y7c at h
  repeat first | (obtain ⟨_, h⟩ := h) | replace h := Des.el h
  subst_vars
  refine Eq.mpr (yjq y0d y1a y0v _ _ _ _ _ K) ?_
  unfold y2e at h
  revert h
  exact bind_So fun y0 => br_So (fun h => h) (andV (by assumption) (bind_So fun y1 => br_So (fun h => h) (bind_So fun y2 => andV (by assumption) (req_So (fun h => h)))))
theorem yhc : SpecOK Tryz.prog elTT 155 (ybw y0o) := by
  refine spec_of_exF (cfg := (ya5 y2e)) (yg rfl rfl rfl) (yd yfw yk) (fn := Tryz.f155) (by kernel_rfl) (by kernel_rfl) (by kernel_rfl) ?_
  intro args H K h
  change y6v y0o args H K at h
  unfold y6v at h
  repeat first | (obtain ⟨_, h⟩ := h) | replace h := Des.el h
  subst_vars
  refine Eq.mpr (yen y2e _ _ _ _ _ K) ?_
  unfold y0o at h
  revert h
  exact andV (by assumption) (bind_So fun y0 => fun h => h)
theorem yf2 : SpecOK Tryz.prog elTT 128 (ya7 y2a) := by
  refine spec_of_exF (cfg := (ya8 y1a)) (yg rfl rfl rfl) (yd ybc yk) (fn := Tryz.f128) (by kernel_rfl) (by kernel_rfl) (by kernel_rfl) ?_
  intro args H K h
  change y72 y2a args H K at h
  unfold y72 at h
  repeat first | (obtain ⟨_, h⟩ := h) | replace h := Des.el h
  subst_vars
  refine Eq.mpr (yjj y1a _ _ _ _ _ K) ?_
  unfold y2a at h
  revert h
  exact andV (by assumption) (bind_So fun y0 => fun h => h)
theorem lpok_chunk_Ensure_L1 (ws cur : List Int) (xs : List Value) (l2 : ya) (p n last : Int) (ok : Bool) (turned k : Int) (cur2 : List Int) (K : V → Heap → Prop) (hx : xs.length ≤ 2) : So (ych ws.length l2 last ok (turned, k, cur2)) (fun (x : Int × (List Int)) => K (vi x.1) (hV ws x.2 xs)) → Loop (y2t y0q y0o y0p) (⟨47, 2⟩ : Cx) (at_ (bodyOf Tryz.f132) [1, 1, 1, 0, 1, 0, 0]) (mkEnv [(0, .ptr 0 0), (5, .ptr 2 0), (10, vi last), (11, vb ok), (12, vi turned), (13, vi k)]) [.pk 0 [ws, cur2] xs [.row 1], .row 0 ws true, .cells 28 (yc l2)] (contK (y2t y0q y0o y0p) (⟨47, 2⟩ : Cx) (bodyOf Tryz.f132) [1, 1, 1, 0, 1, 0] (retK (y2t y0q y0o y0p) Tryz.f132 2 K)) := by
  refine loopK_So (fun (s_ : Int × Int × (List Int)) => (mkEnv [(0, .ptr 0 0), (5, .ptr 2 0), (10, vi last), (11, vb ok), (12, vi s_.1), (13, vi s_.2.1)])) (fun (s_ : Int × Int × (List Int)) => [.pk 0 [ws, s_.2.2] xs [.row 1], .row 0 ws true, .cells 28 (yc l2)]) (fun (x : Int × (List Int)) => K (vi x.1) (hV ws x.2 xs)) ?_ (turned, k, cur2)
  intro s_ J1 h
  clear turned
  clear k
  clear cur2
  obtain ⟨turned, k, cur2⟩ := s_
  refine Eq.mpr (yj0 y0q y0o y0p ws cur xs l2 p n last ok turned k cur2 K J1) ?_
  have h : So (y4l ws.length l2 last ok turned k cur2) _ := h
  unfold y4l at h
  revert h
  exact br_So (br_So (andV hx (bind_So fun y0 => br_So (bind_So fun y1 => fun h => h) (fun h => h))) (fun h => h)) (fun h => h)
theorem yiq : SpecOK Tryz.prog elTT 132 (yas y04) := by
  refine spec_of_exF (cfg := (y2t y0q y0o y0p)) (yg rfl rfl rfl) (yd yji (yd yhc (yd yh8 yk))) (fn := Tryz.f132) (by kernel_rfl) (by kernel_rfl) (by kernel_rfl) ?_
  intro args H K h
  change y78 y04 args H K at h
  unfold y78 at h
  repeat first | (obtain ⟨_, h⟩ := h) | replace h := Des.el h
  subst_vars
  refine Eq.mpr (yg3 y0q y0o y0p _ _ _ _ _ _ K) ?_
  unfold y04 at h
  revert h
  exact bind_So fun y0 => lpok_chunk_Ensure_L1 _ (by first | assumption | exact default) _ _ (by first | assumption | exact default) (by first | assumption | exact default) _ _ _ _ _ K (by assumption)
end Go.Rx
end

section
namespace Go.Rx
open Go.Proofs
structure RightC (c : yb) : Prop where
  workers : 1 ≤ c.Workers ∧ c.Workers ≤ 64
  cpus : 1 ≤ c.CPUs ∧ c.CPUs ≤ 8
  pages : 1 ≤ c.Pages ∧ c.Pages ≤ 256
  stripes : 1 ≤ c.Stripes ∧ c.Stripes ≤ 64
  tries : 0 ≤ c.Tries ∧ c.Tries ≤ 16
  wait : 0 ≤ c.Wait ∧ c.Wait ≤ 64
  clock : 1 ≤ c.Clock ∧ c.Clock ≤ 1099511627776
  private_ : 1 ≤ c.Private ∧ c.Private ≤ 8
  cache : 0 ≤ c.Cache ∧ c.Cache ≤ 8
  bin : 0 ≤ c.Bin ∧ c.Bin ≤ 16
  batch : 1 ≤ c.Batch ∧ c.Batch ≤ 8
instance (c : yb) : Decidable (RightC c) :=
  decidable_of_iff ((1 ≤ c.Workers ∧ c.Workers ≤ 64) ∧ (1 ≤ c.CPUs ∧ c.CPUs ≤ 8) ∧ (1 ≤ c.Pages ∧ c.Pages ≤ 256) ∧ (1 ≤ c.Stripes ∧ c.Stripes ≤ 64) ∧ (0 ≤ c.Tries ∧ c.Tries ≤ 16) ∧ (0 ≤ c.Wait ∧ c.Wait ≤ 64) ∧
    (1 ≤ c.Clock ∧ c.Clock ≤ 1099511627776) ∧ (1 ≤ c.Private ∧ c.Private ≤ 8) ∧ (0 ≤ c.Cache ∧ c.Cache ≤ 8) ∧ (0 ≤ c.Bin ∧ c.Bin ≤ 16) ∧ (1 ≤ c.Batch ∧ c.Batch ≤ 8))
    ⟨fun ⟨a, b, d, e, f, g, h, i, j, k, l⟩ => ⟨a, b, d, e, f, g, h, i, j, k, l⟩, fun ⟨a, b, d, e, f, g, h, i, j, k, l⟩ => ⟨a, b, d, e, f, g, h, i, j, k, l⟩⟩
theorem holds_eq (x : y03) : y08 x = some (decide (x.low ≤ x.n ∧ x.n ≤ x.high)) := by
  unfold y08
  by_cases a : x.low ≤ x.n <;> by_cases b : x.n ≤ x.high <;> simp [a, b]
theorem Check_eq (c : yb) : y2f c = some (if RightC c then 0 else 2) := by
  unfold y2f
  simp only [holds_eq, Option.bind_some]
  by_cases h : RightC c
  · obtain ⟨a, b, d, e, f, g, h', i, j, k, l⟩ := h
    have hR : RightC c := ⟨a, b, d, e, f, g, h', i, j, k, l⟩
    simp [a, b, d, e, f, g, h', i, j, k, l, hR]
  · rw [if_neg h]
    by_cases a : 1 ≤ c.Workers ∧ c.Workers ≤ 64
    case neg => rw [decide_eq_false a]; rfl
    rw [decide_eq_true a]; simp only [Bool.not_true, cond_false]
    by_cases b : 1 ≤ c.CPUs ∧ c.CPUs ≤ 8
    case neg => rw [decide_eq_false b]; rfl
    rw [decide_eq_true b]; simp only [Bool.not_true, cond_false]
    by_cases d : 1 ≤ c.Pages ∧ c.Pages ≤ 256
    case neg => rw [decide_eq_false d]; rfl
    rw [decide_eq_true d]; simp only [Bool.not_true, cond_false]
    by_cases e : 1 ≤ c.Stripes ∧ c.Stripes ≤ 64
    case neg => rw [decide_eq_false e]; rfl
    rw [decide_eq_true e]; simp only [Bool.not_true, cond_false]
    by_cases f : 0 ≤ c.Tries ∧ c.Tries ≤ 16
    case neg => rw [decide_eq_false f]; rfl
    rw [decide_eq_true f]; simp only [Bool.not_true, cond_false]
    by_cases g : 0 ≤ c.Wait ∧ c.Wait ≤ 64
    case neg => rw [decide_eq_false g]; rfl
    rw [decide_eq_true g]; simp only [Bool.not_true, cond_false]
    by_cases h' : 1 ≤ c.Clock ∧ c.Clock ≤ 1099511627776
    case neg => rw [decide_eq_false h']; rfl
    rw [decide_eq_true h']; simp only [Bool.not_true, cond_false]
    by_cases i : 1 ≤ c.Private ∧ c.Private ≤ 8
    case neg => rw [decide_eq_false i]; rfl
    rw [decide_eq_true i]; simp only [Bool.not_true, cond_false]
    by_cases j : 0 ≤ c.Cache ∧ c.Cache ≤ 8
    case neg => rw [decide_eq_false j]; rfl
    rw [decide_eq_true j]; simp only [Bool.not_true, cond_false]
    by_cases k : 0 ≤ c.Bin ∧ c.Bin ≤ 16
    case neg => rw [decide_eq_false k]; rfl
    rw [decide_eq_true k]; simp only [Bool.not_true, cond_false]
    by_cases l : 1 ≤ c.Batch ∧ c.Batch ≤ 8
    case neg => rw [decide_eq_false l]; rfl
    rw [decide_eq_true l]; simp only [Bool.not_true, cond_false]
    exact (h ⟨a, b, d, e, f, g, h', i, j, k, l⟩).elim
def layC (c : yb) : ya :=
  let a0 := 3 + c.Stripes
  let a1 := a0 + (c.Pages + 3) / 4
  let a6 := a1 + 5 * c.Pages
  let a7 := a6 + 62
  let a8 := a7 + c.CPUs * 5 * (c.Cache + 1)
  let a9 := a8 + 5 * (c.Bin + 1)
  let a10 := (a9 + c.Pages * 32 + 127) / 128 * 128
  ⟨c, a0, a1, a1 + c.Pages, a1 + 2 * c.Pages, a1 + 3 * c.Pages, a1 + 4 * c.Pages, a6, a7, a8, a9, a10, a10 + c.Pages * 32⟩
def cOf (L : ya) : yb := L.c
theorem prodC {c : yb} (h : RightC c) : 5 ≤ c.CPUs * 5 * (c.Cache + 1) ∧ c.CPUs * 5 * (c.Cache + 1) ≤ 360 := by
  obtain ⟨h1, h2⟩ := h.cpus
  obtain ⟨h3, h4⟩ := h.cache
  have e : c.CPUs = 1 ∨ c.CPUs = 2 ∨ c.CPUs = 3 ∨ c.CPUs = 4 ∨ c.CPUs = 5 ∨ c.CPUs = 6 ∨ c.CPUs = 7 ∨ c.CPUs = 8 := by omega
  rcases e with e | e | e | e | e | e | e | e <;> rw [e] <;> omega
theorem chunks_eq {p : Int} (h : 0 ≤ p ∧ p ≤ 1000000) : y1b p = some ((p + 3) / 4) := by
  unfold y1b
  rw [wrap_id (x := p + 4) (by omega) (by omega), wrap_id (x := p + 4 - 1) (by omega) (by omega), Int.tdiv_eq_ediv_of_nonneg (by omega), wrap_id (by omega) (by omega)]
  congr 2; omega
theorem Of_eq (c : yb) : y0w c = some (if RightC c then (layC c, 0) else (⟨⟨0,0,0,0,0,0,0,0,0,0,0⟩,0,0,0,0,0,0,0,0,0,0,0,0⟩, 2)) := by
  unfold y0w
  rw [Check_eq]
  by_cases h : RightC c
  · simp only [if_pos h, Option.bind_some]
    rw [chunks_eq (by have := h.pages; omega)]
    have hp := prodC h
    have h1 := h.pages
    have h2 := h.stripes
    have h3 := h.cpus
    have h4 := h.cache
    have h5 := h.bin
    simp only [Option.bind_some, bne_self_eq_false, cond_false]
    have w5 : IntKind.i64.wrap (c.CPUs * 5) = c.CPUs * 5 := wrap_id (by omega) (by omega)
    have w6 : IntKind.i64.wrap (c.Cache + 1) = c.Cache + 1 := wrap_id (by omega) (by omega)
    have w7 : IntKind.i64.wrap (c.CPUs * 5 * (c.Cache + 1)) = c.CPUs * 5 * (c.Cache + 1) := wrap_id (by omega) (by omega)
    rw [w5, w6, w7]
    unfold layC
    generalize c.CPUs * 5 * (c.Cache + 1) = q at *
    simp (disch := omega) only [wrap_id, Int.tdiv_eq_ediv_of_nonneg]
    congr 2
    simp only [ya.mk.injEq, true_and]
    refine ⟨?_, ?_, ?_, ?_, ?_, ?_, ?_, ?_, ?_⟩ <;> omega
  · simp only [if_neg h, Option.bind_some]
    rfl
structure LayOK (L : ya) : Prop where
  cpus : 1 ≤ L.c.CPUs ∧ L.c.CPUs ≤ 8
  pages : 1 ≤ L.c.Pages ∧ L.c.Pages ≤ 256
  stripes : 1 ≤ L.c.Stripes ∧ L.c.Stripes ≤ 64
  private_ : 1 ≤ L.c.Private ∧ L.c.Private ≤ 8
  cache : 0 ≤ L.c.Cache ∧ L.c.Cache ≤ 8
  bin : 0 ≤ L.c.Bin ∧ L.c.Bin ≤ 16
  batch : 1 ≤ L.c.Batch ∧ L.c.Batch ≤ 8
  a0 : L.at_0 = 3 + L.c.Stripes
  a1 : L.at_1 = L.at_0 + (L.c.Pages + 3) / 4
  a2 : L.at_2 = L.at_1 + L.c.Pages
  a3 : L.at_3 = L.at_1 + 2 * L.c.Pages
  a4 : L.at_4 = L.at_1 + 3 * L.c.Pages
  a5 : L.at_5 = L.at_1 + 4 * L.c.Pages
  a6 : L.at_6 = L.at_1 + 5 * L.c.Pages
  a7 : L.at_7 = L.at_6 + 62
  a8 : L.at_8 = L.at_7 + L.c.CPUs * 5 * (L.c.Cache + 1)
  a8b : L.at_7 + 5 ≤ L.at_8 ∧ L.at_8 ≤ L.at_7 + 360
  a9 : L.at_9 = L.at_8 + 5 * (L.c.Bin + 1)
  a10 : L.at_10 = (L.at_9 + L.c.Pages * 32 + 127) / 128 * 128
  a11 : L.at_11 = L.at_10 + L.c.Pages * 32
theorem layC_ok {c : yb} (h : RightC c) : LayOK (layC c) := by
  have hp := prodC h
  refine ⟨h.cpus, h.pages, h.stripes, h.private_, h.cache, h.bin, h.batch, rfl, rfl, ?_, ?_, ?_, ?_, ?_, ?_, ?_, ?_, ?_, ?_, ?_⟩ <;> simp only [layC] <;> (try omega)
theorem Config_eq (L : ya) : yh L = some (cOf L) := rfl
theorem Words_eq (L : ya) : y37 L = some L.at_11 := rfl
theorem User_eq (L : ya) : y0a L = some L.at_10 := rfl
theorem Chunks_eq {L : ya} (h : LayOK L) : y0x L = some ((L.c.Pages + 3) / 4) := by
  unfold y0x
  rw [chunks_eq (by have := h.pages; omega)]; rfl
def lTab (L : ya) (k : Int) : Int := if 0 ≤ k ∧ k < (L.c.Pages + 3) / 4 then L.at_0 + k else 0
def lPg (L : ya) (at_ p : Int) : Int := if 0 ≤ p ∧ p < L.c.Pages then at_ + p else 0
theorem Table_eq {L : ya} (h : LayOK L) (k : Int) : y0v L k = some (lTab L k) := by
  unfold y0v
  rw [Chunks_eq h]
  have := h.pages; have := h.a0; have := h.stripes
  simp only [Option.bind_some, lTab]
  by_cases a : k < 0
  · rw [decide_eq_true a, if_neg (by omega)]; rfl
  · rw [decide_eq_false a]
    by_cases b : k < (L.c.Pages + 3) / 4
    · rw [decide_eq_false (show ¬ k ≥ (L.c.Pages + 3) / 4 by omega), if_pos (by omega), wrap_id (by omega) (by omega)]; rfl
    · rw [decide_eq_true (show k ≥ (L.c.Pages + 3) / 4 by omega), if_neg (by omega)]; rfl
theorem pg_eq {p n a : Int} (hn : 0 ≤ n ∧ n ≤ 1000) (ha : 0 ≤ a ∧ a ≤ 1000000) : (bif decide (p < 0) then some (0 : Int) else bif decide (p ≥ n) then some 0 else some (IntKind.i64.wrap (a + p))) = some (if 0 ≤ p ∧ p < n then a + p else 0) := by
  by_cases x : p < 0
  · rw [decide_eq_true x, if_neg (by omega)]; rfl
  · rw [decide_eq_false x]
    by_cases b : p < n
    · rw [decide_eq_false (show ¬ p ≥ n by omega), if_pos (by omega), wrap_id (by omega) (by omega)]; rfl
    · rw [decide_eq_true (show p ≥ n by omega), if_neg (by omega)]; rfl
theorem Kind_eq {L : ya} (h : LayOK L) (p : Int) : y02 L p = some (lPg L L.at_1 p) := pg_eq (by have := h.pages; omega) (by have := h.pages; have := h.a0; have := h.stripes; have := h.a1; omega)
theorem Count_eq {L : ya} (h : LayOK L) (p : Int) : yr L p = some (lPg L L.at_2 p) := pg_eq (by have := h.pages; omega) (by have := h.pages; have := h.a0; have := h.stripes; have := h.a1; have := h.a2; omega)
theorem Bits_eq {L : ya} (h : LayOK L) (p : Int) : ym L p = some (lPg L L.at_3 p) := pg_eq (by have := h.pages; omega) (by have := h.pages; have := h.a0; have := h.stripes; have := h.a1; have := h.a3; omega)
theorem Next_eq {L : ya} (h : LayOK L) (p : Int) : yw L p = some (lPg L L.at_4 p) := pg_eq (by have := h.pages; omega) (by have := h.pages; have := h.a0; have := h.stripes; have := h.a1; have := h.a4; omega)
theorem Prev_eq {L : ya} (h : LayOK L) (p : Int) : y05 L p = some (lPg L L.at_5 p) := pg_eq (by have := h.pages; omega) (by have := h.pages; have := h.a0; have := h.stripes; have := h.a1; have := h.a5; omega)
theorem none_eq {L : ya} (h : LayOK L) (c : Int) : y2i L c = some (decide (¬ (0 ≤ c ∧ c < 5))) := by
  unfold y2i
  have := h.pages
  have e : (L.c.Pages == 0) = false := by simp; omega
  rw [e]
  by_cases a : c < 0
  · rw [decide_eq_true a, decide_eq_true (show ¬ (0 ≤ c ∧ c < 5) by omega)]; rfl
  · rw [decide_eq_false a]
    by_cases b : c < 5
    · rw [decide_eq_false (show ¬ ¬ (0 ≤ c ∧ c < 5) by omega)]; simp; omega
    · rw [decide_eq_true (show ¬ (0 ≤ c ∧ c < 5) by omega)]; simp; omega
def slotsI (c : Int) : Int := if c = 0 then 32 else if c = 1 then 16 else if c = 2 then 8 else if c = 3 then 4 else if c = 4 then 2 else 0
theorem slots_shr {c : Int} (hc : 0 ≤ c ∧ c < 5) : (32 : Int) / 2 ^ min c.toNat IntKind.i64.bits = slotsI c := by
  have e : c = 0 ∨ c = 1 ∨ c = 2 ∨ c = 3 ∨ c = 4 := by omega
  rcases e with rfl | rfl | rfl | rfl | rfl <;> decide
theorem slots_le (c : Int) : 0 ≤ slotsI c ∧ slotsI c ≤ 32 := by
  unfold slotsI; repeat' split
  all_goals omega
def lHead (L : ya) (c f : Int) : Int := if (0 ≤ c ∧ c < 5) ∧ 1 ≤ f ∧ f ≤ slotsI c then L.at_6 + 64 - 2 * slotsI c + f - 1 else 0
theorem Head_eq {L : ya} (h : LayOK L) (c f : Int) : y06 L c f = some (lHead L c f) := by
  unfold y06
  rw [none_eq h]
  have := h.pages; have := h.a0; have := h.stripes; have := h.a1; have := h.a6
  simp only [Option.bind_some, lHead]
  by_cases a : 0 ≤ c ∧ c < 5
  · have s1 := slots_le c
    rw [decide_eq_false (by omega), decide_eq_true (show 0 ≤ c by omega), slots_shr a]
    generalize slotsI c = s at *
    by_cases b : f < 1
    · rw [decide_eq_true b, if_neg (by omega)]; rfl
    · rw [decide_eq_false b]
      by_cases d : f > s
      · rw [decide_eq_true d, if_neg (by omega)]; rfl
      · rw [decide_eq_false d, if_pos (by omega)]
        simp (disch := omega) only [wrap_id, cond_true, cond_false]
        congr 1; omega
  · rw [decide_eq_true a, if_neg (by omega)]; rfl
theorem mul_b {x y a b : Int} (hx : 0 ≤ x ∧ x ≤ a) (hy : 0 ≤ y ∧ y ≤ b) : 0 ≤ x * y ∧ x * y ≤ a * b :=
  ⟨Int.mul_nonneg hx.1 hy.1, Int.mul_le_mul hx.2 hy.2 hy.1 (by omega)⟩
theorem LayOK.big {L : ya} (h : LayOK L) : 128 ≤ L.at_10 ∧ L.at_10 ≤ 20000 ∧ L.at_9 + L.c.Pages * 32 ≤ L.at_10 ∧ 0 ≤ L.at_9 := by
  have := h.pages; have := h.a0; have := h.stripes; have := h.a1; have := h.a6; have := h.a7; have h3 := h.a8b; have h4 := h.bin; have := h.a9; have := h.a10
  omega
theorem mine_eq {L : ya} (a : Int) : y1x L a = some (decide (L.at_10 ≤ a ∧ a < L.at_11)) := by
  unfold y1x
  by_cases x : L.at_10 ≤ a <;> by_cases y : a < L.at_11 <;> simp [x, y]
def lAddr (L : ya) (p : Int) : Int := if 0 ≤ p ∧ p < L.c.Pages then L.at_10 + p * 32 else 0
theorem Addr_eq {L : ya} (h : LayOK L) (p : Int) : y2h L p = some (lAddr L p) := by
  unfold y2h
  have := h.big; have := h.a11; have := h.pages
  simp only [lAddr]
  by_cases x : p < 0
  · rw [decide_eq_true x, if_neg (by omega)]; rfl
  · rw [decide_eq_false x]
    by_cases b : p < L.c.Pages
    · rw [decide_eq_false (show ¬ p ≥ L.c.Pages by omega), if_pos (by omega), wrap_id (x := p * 32) (by omega) (by omega), wrap_id (by omega) (by omega)]; rfl
    · rw [decide_eq_true (show p ≥ L.c.Pages by omega), if_neg (by omega)]; rfl
def lPlace (L : ya) (a : Int) : Int × Int × Bool := if L.at_10 ≤ a ∧ a < L.at_11 then ((a - L.at_10) / 32, (a - L.at_10) % 32, true) else (0, 0, false)
theorem Place_eq {L : ya} (h : LayOK L) (a : Int) : y2g L a = some (lPlace L a) := by
  unfold y2g
  rw [mine_eq]
  have := h.big; have := h.a11; have := h.pages
  simp only [Option.bind_some, lPlace]
  by_cases x : L.at_10 ≤ a ∧ a < L.at_11
  · rw [decide_eq_true x, if_pos x, wrap_id (x := a - L.at_10) (by omega) (by omega), Int.tdiv_eq_ediv_of_nonneg (by omega), Int.tmod_eq_emod_of_nonneg (by omega), wrap_id (by omega) (by omega)]; rfl
  · rw [decide_eq_false x, if_neg x]; rfl
end Go.Rx
end

section
namespace Go.Rx
open Go.Proofs
def thereB (pg k : Int) : Bool := decide (0 ≤ k) && decide (k < (pg + 3) / 4)
def pagesI (pg k : Int) : Int := bif thereB pg k then 4 * k else 0
def pagesN (pg k : Int) : Int := bif thereB pg k then min 4 (pg - 4 * k) else 0
def chunkI (p : Int) : Int := bif decide (p < 0) then -1 else p / 4
def spanB (pg p n : Int) : Bool := decide (1 ≤ n) && (decide (0 ≤ p) && (decide (p < pg) && decide (n ≤ pg - p)))
def isB (cur : List Int) (pg tb k st : Int) : Bool := thereB pg k && (cur.getD (tb + k).toNat 0 == st)
def turnB (cur : List Int) (pg tb k st : Int) : Bool := thereB pg k && !((cur.getD (tb + k).toNat 0 == 1) == (st == 1))
def turnU (cur : List Int) (pg tb k st : Int) : List Int := bif turnB cur pg tb k st then cur.set (tb + k).toNat st else cur
def ensG (pg tb : Int) (cur : List Int) (a : Int) : Nat → Int × List Int
  | 0 => (0, cur)
  | n + 1 => (bif turnB (ensG pg tb cur a n).2 pg tb (a + n) 1 then (ensG pg tb cur a n).1 + pagesN pg (a + n) else (ensG pg tb cur a n).1, turnU (ensG pg tb cur a n).2 pg tb (a + n) 1)
def ensK (pg p n : Int) : Nat := bif spanB pg p n then ((p + n - 1) / 4 - p / 4 + 1).toNat else 0
def ensM (cur : List Int) (pg tb p n : Int) : Int × List Int := ensG pg tb cur (p / 4) (ensK pg p n)
theorem there_of {pg k : Int} (h : thereB pg k = true) : 0 ≤ k ∧ k < (pg + 3) / 4 := by
  unfold thereB at h; simpa using h
theorem turnU_len (cur : List Int) (pg tb k st : Int) : (turnU cur pg tb k st).length = cur.length := by
  unfold turnU; cases turnB cur pg tb k st <;> simp
theorem ensG_len (pg tb : Int) (cur : List Int) (a : Int) : ∀ n, (ensG pg tb cur a n).2.length = cur.length
  | 0 => rfl
  | n + 1 => by rw [ensG, turnU_len, ensG_len]
theorem pagesN_le (pg k : Int) : 0 ≤ pagesN pg k ∧ pagesN pg k ≤ 4 := by
  unfold pagesN
  cases h : thereB pg k with
  | false => exact ⟨Int.le_refl _, by show (0 : Int) ≤ 4; omega⟩
  | true =>
    unfold thereB at h
    simp at h
    show 0 ≤ min 4 (pg - 4 * k) ∧ min 4 (pg - 4 * k) ≤ 4
    omega
theorem ensG_le (pg tb : Int) (cur : List Int) (a : Int) : ∀ n : Nat, 0 ≤ (ensG pg tb cur a n).1 ∧ (ensG pg tb cur a n).1 ≤ 4 * (n : Int)
  | 0 => ⟨Int.le_refl _, by show (0 : Int) ≤ 4 * 0; omega⟩
  | n + 1 => by
    have h1 := ensG_le pg tb cur a n
    have h2 := pagesN_le pg (a + n)
    simp only [ensG]
    cases turnB (ensG pg tb cur a n).2 pg tb (a + n) 1 with
    | false => exact ⟨h1.1, by show (ensG pg tb cur a n).1 ≤ _; omega⟩
    | true => exact ⟨by show 0 ≤ (ensG pg tb cur a n).1 + _; omega, by show (ensG pg tb cur a n).1 + _ ≤ _; omega⟩
theorem span_of {pg p n : Int} (h : spanB pg p n = true) : 1 ≤ n ∧ 0 ≤ p ∧ p < pg ∧ n ≤ pg - p := by
  unfold spanB at h; simpa using h
def cntN (cur : List Int) (pg tb : Int) : Nat → Int
  | 0 => 0
  | n + 1 => cntN cur pg tb n + (bif isB cur pg tb n 1 then pagesN pg n else 0)
def chunksN (pg : Int) : Nat := ((pg + 3) / 4).toNat
def countM (cur : List Int) (pg tb : Int) : Int := cntN cur pg tb (chunksN pg)
theorem isB_set {cur : List Int} {pg tb k j x : Int} (htb : 0 ≤ tb) (hk : thereB pg k = true) (hl : tb + (pg + 3) / 4 ≤ (cur.length : Int)) :
    isB (cur.set (tb + k).toNat x) pg tb j 1 = if j = k then x == 1 else isB cur pg tb j 1 := by
  obtain ⟨k1, k2⟩ := there_of hk
  unfold isB
  by_cases e : j = k
  · subst e
    rw [if_pos rfl, hk, List.getD, List.getElem?_set_self (by omega)]
    rfl
  · rw [if_neg e]
    cases hj : thereB pg j with
    | false => rfl
    | true =>
      obtain ⟨j1, j2⟩ := there_of hj
      rw [List.getD, List.getElem?_set_ne (by omega)]
      rfl
theorem turn_isB {cur : List Int} {pg tb k st : Int} (htb : 0 ≤ tb) (hk : thereB pg k = true) (hl : tb + (pg + 3) / 4 ≤ (cur.length : Int)) (j : Int) :
    isB (turnU cur pg tb k st) pg tb j 1 = if j = k then st == 1 else isB cur pg tb j 1 := by
  unfold turnU
  cases ht : turnB cur pg tb k st with
  | true => exact isB_set htb hk hl
  | false =>
    show isB cur pg tb j 1 = _
    by_cases e : j = k
    · subst e
      rw [if_pos rfl]
      unfold turnB at ht
      unfold isB
      rw [hk] at ht ⊢
      simp only [Bool.true_and, Bool.not_eq_false'] at ht ⊢
      exact eq_of_beq ht
    · rw [if_neg e]
def byM (cur : List Int) (pg tb k st : Int) : Int := bif turnB cur pg tb k st then (bif st == 1 then pagesN pg k else - pagesN pg k) else 0
theorem turn_no {cur : List Int} {pg tb k st : Int} (h : turnB cur pg tb k st = false) : turnU cur pg tb k st = cur ∧ byM cur pg tb k st = 0 := by
  unfold turnU byM; rw [h]; exact ⟨rfl, rfl⟩
theorem turnB_isB {cur : List Int} {pg tb k st : Int} (hk : thereB pg k = true) : turnB cur pg tb k st = !(isB cur pg tb k 1 == (st == 1)) := by
  unfold turnB isB; rw [hk]; simp only [Bool.true_and]
theorem cnt_turn {cur : List Int} {pg tb k st : Int} (htb : 0 ≤ tb) (hk : thereB pg k = true) (hl : tb + (pg + 3) / 4 ≤ (cur.length : Int)) : ∀ n : Nat,
    cntN (turnU cur pg tb k st) pg tb n = cntN cur pg tb n + (if k < (n : Int) then byM cur pg tb k st else 0)
  | 0 => by
    have := (there_of hk).1
    rw [if_neg (by omega)]
    rfl
  | n + 1 => by
    have ih := cnt_turn htb hk hl (st := st) n
    obtain ⟨k1, k2⟩ := there_of hk
    simp only [cntN]
    rw [ih, turn_isB htb hk hl]
    by_cases e : (n : Int) = k
    · rw [if_pos e, if_neg (by omega), if_pos (by omega)]
      unfold byM
      rw [turnB_isB hk, e]
      cases isB cur pg tb k 1 <;> cases hs : (st == 1) <;> simp <;> omega
    · rw [if_neg e]
      by_cases e2 : k < (n : Int)
      · rw [if_pos e2, if_pos (by omega)]; omega
      · rw [if_neg e2, if_neg (by omega)]; omega
theorem count_turn {cur : List Int} {pg tb k st : Int} (htb : 0 ≤ tb) (hl : tb + (pg + 3) / 4 ≤ (cur.length : Int)) : countM (turnU cur pg tb k st) pg tb = countM cur pg tb + byM cur pg tb k st := by
  cases hk : thereB pg k with
  | false =>
    have : turnB cur pg tb k st = false := by unfold turnB; rw [hk]; rfl
    rw [(turn_no this).1, (turn_no this).2]; omega
  | true =>
    obtain ⟨k1, k2⟩ := there_of hk
    unfold countM
    rw [cnt_turn htb hk hl, if_pos (by unfold chunksN; omega)]
theorem count_ens {pg tb : Int} {cur : List Int} (htb : 0 ≤ tb) (hl : tb + (pg + 3) / 4 ≤ (cur.length : Int)) (a : Int) : ∀ n, countM (ensG pg tb cur a n).2 pg tb = countM cur pg tb + (ensG pg tb cur a n).1
  | 0 => by show countM cur pg tb = countM cur pg tb + 0; omega
  | n + 1 => by
    have ih := count_ens htb hl a n
    simp only [ensG]
    rw [count_turn htb (by rw [ensG_len]; exact hl), ih]
    unfold byM
    cases turnB (ensG pg tb cur a n).2 pg tb (a + n) 1 with
    | false => show _ + (ensG pg tb cur a n).1 + 0 = _ + (ensG pg tb cur a n).1; omega
    | true => show _ + (ensG pg tb cur a n).1 + pagesN pg (a + n) = _ + ((ensG pg tb cur a n).1 + pagesN pg (a + n)); omega
theorem ens_isB {pg tb : Int} {cur : List Int} (htb : 0 ≤ tb) (hl : tb + (pg + 3) / 4 ≤ (cur.length : Int)) (a j : Int) : ∀ n : Nat, (∀ i : Nat, i < n → thereB pg (a + i) = true) →
    isB (ensG pg tb cur a n).2 pg tb j 1 = (isB cur pg tb j 1 || (decide (a ≤ j) && decide (j < a + n)))
  | 0, _ => by
    show isB cur pg tb j 1 = _
    have : (decide (a ≤ j) && decide (j < a + ((0 : Nat) : Int))) = false := by
      by_cases h : a ≤ j
      · rw [decide_eq_false (show ¬ j < a + ((0 : Nat) : Int) by omega)]; simp
      · rw [decide_eq_false h]; rfl
    rw [this, Bool.or_false]
  | n + 1, hn => by
    have ih := ens_isB htb hl a j n (fun i hi => hn i (by omega))
    simp only [ensG]
    rw [turn_isB htb (hn n (by omega)) (by rw [ensG_len]; exact hl), ih]
    by_cases e : j = a + n
    · rw [if_pos e, decide_eq_true (show a ≤ j by omega), decide_eq_true (show j < a + ((n + 1 : Nat) : Int) by omega)]; simp
    · rw [if_neg e]
      congr 2
      by_cases h : j < a + (n : Int)
      · rw [decide_eq_true h, decide_eq_true (show j < a + ((n + 1 : Nat) : Int) by omega)]
      · rw [decide_eq_false h, decide_eq_false (show ¬ j < a + ((n + 1 : Nat) : Int) by omega)]
theorem ens_there {pg p n : Int} (h : spanB pg p n = true) : ∀ i : Nat, i < ensK pg p n → thereB pg (p / 4 + i) = true := by
  intro i hi
  obtain ⟨s1, s2, s3, s4⟩ := span_of h
  unfold ensK at hi
  rw [h] at hi
  have hi : i < ((p + n - 1) / 4 - p / 4 + 1).toNat := hi
  unfold thereB
  rw [decide_eq_true (show 0 ≤ p / 4 + (i : Int) by omega), decide_eq_true (show p / 4 + (i : Int) < (pg + 3) / 4 by omega)]
  rfl
theorem turn_out {cur : List Int} {pg tb k st : Int} {j : Nat} (htb : 0 ≤ tb) (h : (j : Int) < tb ∨ tb + (pg + 3) / 4 ≤ (j : Int)) : (turnU cur pg tb k st)[j]? = cur[j]? := by
  unfold turnU
  cases ht : turnB cur pg tb k st with
  | false => rfl
  | true =>
    have hk : thereB pg k = true := by unfold turnB at ht; simp only [Bool.and_eq_true] at ht; exact ht.1
    obtain ⟨k1, k2⟩ := there_of hk
    show (cur.set _ _)[j]? = _
    rw [List.getElem?_set_ne (by omega)]
theorem ens_out {cur : List Int} {pg tb a : Int} {j : Nat} (htb : 0 ≤ tb) (h : (j : Int) < tb ∨ tb + (pg + 3) / 4 ≤ (j : Int)) : ∀ n, (ensG pg tb cur a n).2[j]? = cur[j]?
  | 0 => rfl
  | n + 1 => by simp only [ensG]; rw [turn_out htb h, ens_out htb h n]
def rcN (cur : List Int) (pg tb : Int) : Nat → Int
  | 0 => 0
  | n + 1 => rcN cur pg tb n + (bif isB cur pg tb ((n : Int) / 4) 1 then 1 else 0)
def rensN (cur : List Int) (pg tb p : Int) : Nat → List Int
  | 0 => cur
  | n + 1 => turnU (rensN cur pg tb p n) pg tb ((p + n) / 4) 1
theorem rc_add {cur : List Int} {pg tb : Int} (m : Nat) : ∀ k : Nat, k ≤ 4 → rcN cur pg tb (4 * m + k) = rcN cur pg tb (4 * m) + (bif isB cur pg tb m 1 then (k : Int) else 0)
  | 0, _ => by cases isB cur pg tb m 1 <;> simp
  | k + 1, hk => by
    have ih := rc_add (cur := cur) (pg := pg) (tb := tb) m k (by omega)
    have e : 4 * m + (k + 1) = (4 * m + k) + 1 := by omega
    rw [e]
    simp only [rcN]
    have e2 : ((4 * m + k : Nat) : Int) / 4 = m := by omega
    rw [ih, e2]
    cases isB cur pg tb m 1 with
    | false => show _ + (0 : Int) + 0 = _ + 0; omega
    | true => show _ + (k : Int) + 1 = _ + ((k + 1 : Nat) : Int); omega
theorem rc_chunks {cur : List Int} {pg tb : Int} (hpg : 0 ≤ pg) : ∀ m : Nat, m ≤ chunksN pg → rcN cur pg tb (min (4 * m) pg.toNat) = cntN cur pg tb m
  | 0, _ => by simp [rcN, cntN]
  | m + 1, hm => by
    have ih := rc_chunks (cur := cur) (tb := tb) hpg m (by omega)
    unfold chunksN at hm
    have h1 : 4 * m < pg.toNat := by omega
    rw [Nat.min_eq_left (by omega)] at ih
    have e : min (4 * (m + 1)) pg.toNat = 4 * m + min 4 (pg.toNat - 4 * m) := by omega
    rw [e, rc_add m _ (by omega), ih]
    simp only [cntN]
    have hk : thereB pg m = true := by
      unfold thereB
      rw [decide_eq_true (show (0 : Int) ≤ m by omega), decide_eq_true (show (m : Int) < (pg + 3) / 4 by omega)]; rfl
    have hp : pagesN pg m = ((min 4 (pg.toNat - 4 * m) : Nat) : Int) := by
      unfold pagesN; rw [hk]
      show min 4 (pg - 4 * (m : Int)) = _
      omega
    rw [hp]
theorem rc_count {cur : List Int} {pg tb : Int} (hpg : 0 ≤ pg) : rcN cur pg tb pg.toNat = countM cur pg tb := by
  have := rc_chunks (cur := cur) (tb := tb) hpg (chunksN pg) (Nat.le_refl _)
  rw [Nat.min_eq_right (by unfold chunksN; omega)] at this
  exact this
theorem ensK_span {pg p n : Int} (h : spanB pg p n = true) : ensK pg p n = ((p + n - 1) / 4 - p / 4 + 1).toNat := by
  unfold ensK; rw [h]; rfl
theorem rens_ens {cur : List Int} {pg tb p n : Int} (htb : 0 ≤ tb) (hl : tb + (pg + 3) / 4 ≤ (cur.length : Int)) (h : spanB pg p n = true) : ∀ j : Nat, ((j : Int) < n) →
    rensN cur pg tb p (j + 1) = (ensG pg tb cur (p / 4) ((p + j) / 4 - p / 4 + 1).toNat).2
  | 0, _ => by
    have e : ((p + ((0 : Nat) : Int)) / 4 - p / 4 + 1).toNat = 1 := by omega
    rw [e]
    have e2 : (p + ((0 : Nat) : Int)) / 4 = p / 4 + ((0 : Nat) : Int) := by omega
    simp only [rensN, ensG, e2]
  | j + 1, hj => by
    have ih := rens_ens htb hl h j (by omega)
    obtain ⟨s1, s2, s3, s4⟩ := span_of h
    show turnU (rensN cur pg tb p (j + 1)) pg tb ((p + ((j + 1 : Nat) : Int)) / 4) 1 = _
    rw [ih]
    by_cases e : (p + ((j + 1 : Nat) : Int)) / 4 = (p + j) / 4
    · rw [e]
      have hth : ∀ i : Nat, i < ((p + j) / 4 - p / 4 + 1).toNat → thereB pg (p / 4 + i) = true := fun i hi => ens_there h i (by rw [ensK_span h]; omega)
      have hk : thereB pg ((p + j) / 4) = true := by
        have := hth ((p + j) / 4 - p / 4).toNat (by omega)
        have e3 : p / 4 + (((p + j) / 4 - p / 4).toNat : Int) = (p + j) / 4 := by omega
        rw [e3] at this
        exact this
      have hB : isB (ensG pg tb cur (p / 4) ((p + j) / 4 - p / 4 + 1).toNat).2 pg tb ((p + j) / 4) 1 = true := by
        rw [ens_isB htb hl _ _ _ hth, decide_eq_true (show p / 4 ≤ (p + j) / 4 by omega), decide_eq_true (show (p + j) / 4 < p / 4 + (((p + j) / 4 - p / 4 + 1).toNat : Int) by omega)]
        simp
      have ht : turnB (ensG pg tb cur (p / 4) ((p + j) / 4 - p / 4 + 1).toNat).2 pg tb ((p + j) / 4) 1 = false := by rw [turnB_isB hk, hB]; rfl
      exact (turn_no ht).1
    · have e4 : ((p + ((j + 1 : Nat) : Int)) / 4 - p / 4 + 1).toNat = ((p + j) / 4 - p / 4 + 1).toNat + 1 := by omega
      rw [e4]
      simp only [ensG]
      have e5 : p / 4 + ((((p + j) / 4 - p / 4 + 1).toNat : Nat) : Int) = (p + ((j + 1 : Nat) : Int)) / 4 := by omega
      rw [e5]
theorem rens_all {cur : List Int} {pg tb p n : Int} (htb : 0 ≤ tb) (hl : tb + (pg + 3) / 4 ≤ (cur.length : Int)) (h : spanB pg p n = true) : rensN cur pg tb p n.toNat = (ensM cur pg tb p n).2 := by
  obtain ⟨s1, s2, s3, s4⟩ := span_of h
  have e : n.toNat = (n.toNat - 1) + 1 := by omega
  rw [e, rens_ens htb hl h (n.toNat - 1) (by omega)]
  unfold ensM
  rw [ensK_span h]
  have e2 : (p + ((n.toNat - 1 : Nat) : Int)) = p + n - 1 := by omega
  rw [e2]
theorem imin4 (x : Int) : (if x < 4 then x else 4) = min 4 x := by rw [Int.min_def]; split <;> split <;> omega
theorem cOf_eq {p : Int} (h : -9223372036854775808 ≤ p ∧ p ≤ 9223372036854775807) : y0s p = some (chunkI p) := by
  unfold y0s chunkI
  by_cases a : p < 0
  · rw [decide_eq_true a]; rfl
  · rw [decide_eq_false a, Int.tdiv_eq_ediv_of_nonneg (by omega), wrap_id (by omega) (by omega)]; rfl
theorem there_eq {L : ya} (h : LayOK L) (k : Int) : y0d ⟨L, k⟩ = some (thereB L.c.Pages k) := by
  unfold y0d thereB
  simp only [Chunks_eq h, Option.bind_some]
  by_cases a : 0 ≤ k
  · rw [decide_eq_true (show k ≥ 0 from a)]; rfl
  · rw [decide_eq_false (show ¬ k ≥ 0 from a)]; rfl
theorem opages_eq {L : ya} (h : LayOK L) (k : Int) : y2o ⟨L, k⟩ = some (pagesI L.c.Pages k, pagesN L.c.Pages k) := by
  unfold y2o pagesI pagesN
  simp only [there_eq h, Config_eq, Option.bind_some, cOf]
  have := h.pages
  cases hk : thereB L.c.Pages k with
  | false => rfl
  | true =>
    obtain ⟨k1, k2⟩ := there_of hk
    simp only [Bool.not_true, cond_false, cond_true]
    rw [wrap_id (x := k * 4) (by omega) (by omega), wrap_id (by omega) (by omega), imin4, Int.mul_comm k 4]
theorem Pages_eq {L : ya} (h : LayOK L) (k : Int) : y0p L k = some (pagesI L.c.Pages k, pagesN L.c.Pages k) := by
  unfold y0p
  rw [opages_eq h]; rfl
theorem span_eq {L : ya} (h : LayOK L) {p n : Int} (hp : -9223372036854775808 ≤ p ∧ p ≤ 9223372036854775807) : y0q L p n = some (if spanB L.c.Pages p n = true then (p / 4, (p + n - 1) / 4, true) else (0, 0, false)) := by
  unfold y0q spanB
  simp only [Config_eq, Option.bind_some, cOf]
  have := h.pages
  by_cases a : n < 1
  · rw [decide_eq_true a, decide_eq_false (show ¬ 1 ≤ n by omega)]; rfl
  rw [decide_eq_false a, decide_eq_true (show 1 ≤ n by omega)]
  by_cases b : p < 0
  · rw [decide_eq_true b, decide_eq_false (show ¬ 0 ≤ p by omega)]; rfl
  rw [decide_eq_false b, decide_eq_true (show 0 ≤ p by omega)]
  by_cases c : p < L.c.Pages
  · rw [decide_eq_false (show ¬ p ≥ L.c.Pages by omega), decide_eq_true c, wrap_id (x := L.c.Pages - p) (by omega) (by omega)]
    by_cases d : n ≤ L.c.Pages - p
    · rw [decide_eq_false (show ¬ n > L.c.Pages - p by omega), decide_eq_true d, wrap_id (x := p + n) (by omega) (by omega), wrap_id (x := p + n - 1) (by omega) (by omega), cOf_eq (by omega), cOf_eq (by omega)]
      unfold chunkI
      rw [decide_eq_false b, decide_eq_false (show ¬ p + n - 1 < 0 by omega)]; rfl
    · rw [decide_eq_true (show n > L.c.Pages - p by omega), decide_eq_false d]; rfl
  · rw [decide_eq_true (show p ≥ L.c.Pages by omega), decide_eq_false c]; rfl
structure VOK (L : ya) (nw : Nat) (cur : List Int) : Prop where
  lay : LayOK L
  len : cur.length = nw
  all : L.at_11 ≤ (nw : Int)
theorem rd_getD (cur : List Int) (a : Int) : rd cur a = cur.getD a.toNat 0 := rfl
theorem tab_in {L : ya} {nw : Nat} {cur : List Int} (v : VOK L nw cur) {k : Int} (hk : thereB L.c.Pages k = true) : lTab L k = L.at_0 + k ∧ inR (L.at_0 + k) nw = true := by
  obtain ⟨k1, k2⟩ := there_of hk
  have := v.lay.big; have := v.lay.a11; have := v.lay.pages; have := v.all; have := v.lay.a0; have := v.lay.stripes; have := v.lay.a1; have := v.lay.a6; have := v.lay.a7; have h3 := v.lay.a8b; have h4 := v.lay.bin; have := v.lay.a9
  refine ⟨by unfold lTab; rw [if_pos ⟨k1, k2⟩], inR_int (by omega) (by omega)⟩
theorem VOK.tab {L : ya} {nw : Nat} {cur : List Int} (v : VOK L nw cur) : 0 ≤ L.at_0 ∧ L.at_0 + (L.c.Pages + 3) / 4 ≤ (cur.length : Int) := by
  have := v.lay.big; have := v.lay.a11; have := v.lay.pages; have := v.all; have := v.lay.a0; have := v.lay.stripes; have := v.lay.a1; have := v.lay.a6; have := v.lay.a7; have h3 := v.lay.a8b; have h4 := v.lay.bin; have := v.lay.a9
  have := v.len
  omega
theorem is_eq {L : ya} {nw : Nat} {cur : List Int} (v : VOK L nw cur) (k st : Int) : y1a nw cur ⟨L, k⟩ st = some (isB cur L.c.Pages L.at_0 k st) := by
  unfold y1a isB
  simp only [there_eq v.lay, Table_eq v.lay, Option.bind_some]
  cases hk : thereB L.c.Pages k with
  | false => rfl
  | true =>
    obtain ⟨h1, h2⟩ := tab_in v hk
    simp only [cond_true, h1, h2, Bool.true_and, rd_getD]
theorem turn_eq {L : ya} {nw : Nat} {cur : List Int} (v : VOK L nw cur) (k st : Int) : y2e nw cur ⟨L, k⟩ st = some (turnB cur L.c.Pages L.at_0 k st, turnU cur L.c.Pages L.at_0 k st) := by
  unfold y2e turnU turnB
  simp only [there_eq v.lay, Table_eq v.lay, is_eq v, Option.bind_some]
  cases hk : thereB L.c.Pages k with
  | false => rfl
  | true =>
    obtain ⟨h1, h2⟩ := tab_in v hk
    have e : isB cur L.c.Pages L.at_0 k 1 = (cur.getD (L.at_0 + k).toNat 0 == 1) := by unfold isB; rw [hk]; rfl
    rw [e]
    simp only [Bool.not_true, cond_false, h1, h2, cond_true, Bool.true_and]
    cases (cur.getD (L.at_0 + k).toNat 0 == 1) == (st == 1) <;> rfl
theorem VOK.turn {L : ya} {nw : Nat} {cur : List Int} (v : VOK L nw cur) (k st : Int) : VOK L nw (turnU cur L.c.Pages L.at_0 k st) := ⟨v.lay, by rw [turnU_len]; exact v.len, v.all⟩
theorem Map_eq {L : ya} {nw : Nat} {cur : List Int} (v : VOK L nw cur) (k : Int) : y0o nw cur L k = some (turnB cur L.c.Pages L.at_0 k 1, turnU cur L.c.Pages L.at_0 k 1) := by
  unfold y0o; rw [turn_eq v]; rfl
theorem VOK.ens {L : ya} {nw : Nat} {cur : List Int} (v : VOK L nw cur) (p n : Int) : VOK L nw (ensM cur L.c.Pages L.at_0 p n).2 := ⟨v.lay, by unfold ensM; rw [ensG_len]; exact v.len, v.all⟩
theorem Ensure_eq {L : ya} {nw : Nat} {cur : List Int} (v : VOK L nw cur) {p n : Int} (hp : -9223372036854775808 ≤ p ∧ p ≤ 9223372036854775807) : y04 nw cur L p n = some (ensM cur L.c.Pages L.at_0 p n) := by
  unfold y04
  rw [span_eq v.lay hp, Option.bind_some]
  unfold ensM
  cases hs : spanB L.c.Pages p n with
  | false =>
    have hm : ensK L.c.Pages p n = 0 := by unfold ensK; rw [hs]; rfl
    rw [hm]
    exact loopO_end rfl
  | true =>
    obtain ⟨s1, s2, s3, s4⟩ := span_of hs
    have hpg := v.lay.pages
    rw [ensK_span hs, if_pos rfl]
    generalize hG : ensG L.c.Pages L.at_0 cur (p / 4) = G
    have hGs : ∀ n : Nat, G (n + 1) = (bif turnB (G n).2 L.c.Pages L.at_0 (p / 4 + n) 1 then (G n).1 + pagesN L.c.Pages (p / 4 + n) else (G n).1, turnU (G n).2 L.c.Pages L.at_0 (p / 4 + n) 1) := fun n => by rw [← hG]; rfl
    have hGv : ∀ n : Nat, VOK L nw (G n).2 := fun n => ⟨v.lay, by rw [← hG, ensG_len]; exact v.len, v.all⟩
    have hGle : ∀ n : Nat, 0 ≤ (G n).1 ∧ (G n).1 ≤ 4 * (n : Int) := fun n => by rw [← hG]; exact ensG_le _ _ _ _ n
    obtain ⟨r, h1, rfl⟩ := loopO_ind (step := fun s : Int × Int × List Int => y4l nw L ((p + n - 1) / 4) true s.1 s.2.1 s.2.2)
      (I := fun s => ∃ j : Nat, (j : Int) ≤ (p + n - 1) / 4 - p / 4 + 1 ∧ s = ((G j).1, p / 4 + j, (G j).2))
      (μ := fun s => ((p + n - 1) / 4 + 1 - s.2.1).toNat) (fun r => r = G ((p + n - 1) / 4 - p / 4 + 1).toNat) (by
        rintro _ ⟨j, hj, rfl⟩
        simp only [y4l, cond_true]
        have hle := hGle j
        have hpn := pagesN_le L.c.Pages (p / 4 + j)
        by_cases e : p / 4 + (j : Int) ≤ (p + n - 1) / 4
        · rw [decide_eq_true e, cond_true, Map_eq (hGv j), Option.bind_some, Pages_eq v.lay, Option.bind_some, wrap_id (x := p / 4 + (j : Int) + 1) (by omega) (by omega), wrap_id (by omega) (by omega)]
          refine .inl ⟨((G (j + 1)).1, p / 4 + ((j + 1 : Nat) : Int), (G (j + 1)).2), ?_, ⟨j + 1, by omega, rfl⟩, by simp only; omega⟩
          have e1 : p / 4 + ((j + 1 : Nat) : Int) = p / 4 + j + 1 := by omega
          rw [e1, hGs]
          cases turnB (G j).2 L.c.Pages L.at_0 (p / 4 + j) 1 <;> rfl
        · have ej : j = ((p + n - 1) / 4 - p / 4 + 1).toNat := by omega
          rw [decide_eq_false e, cond_false, ← ej]
          exact .inr ⟨_, rfl, rfl⟩) (0, p / 4, cur) ⟨0, by omega, by rw [← hG]; simp [ensG]⟩
    exact h1
end Go.Rx
end

noncomputable section
namespace Go.Rx
open Go.Proofs
set_option maxRecDepth 100000
set_option maxHeartbeats 4000000
abbrev Y12 := yf → Option Int
def y7d (m_ : Y12) (args : List V) (H : Heap) (K : V → Heap → Prop) : Prop :=
  aC args fun a0 r => aN r <| aAgg a0 fun c0 => y38 c0 fun l2 => aN H <| So (m_ l2) fun x => K (vi x) []
def ybh (m_ : Y12) : Spec := ⟨y7d m_, (true : Bool)⟩
def y5w (m_ : Y12) (args : List V) (H : Heap) (K : V → Heap → Prop) : Prop :=
  aC args fun a0 r => aN r <| aAgg a0 fun c0 => y38 c0 fun l2 => aN H <| So (m_ l2) fun x => K (vi x) []
def yak (m_ : Y12) : Spec := ⟨y5w m_, (true : Bool)⟩
def y76 (m_ : Y12) (args : List V) (H : Heap) (K : V → Heap → Prop) : Prop :=
  aC args fun a0 r => aN r <| aAgg a0 fun c0 => y38 c0 fun l2 => aN H <| So (m_ l2) fun x => K (vi x) []
def ybm (m_ : Y12) : Spec := ⟨y76 m_, (true : Bool)⟩
def y7b (m_ : Y12) (args : List V) (H : Heap) (K : V → Heap → Prop) : Prop :=
  aC args fun a0 r => aN r <| aAgg a0 fun c0 => y38 c0 fun l2 => aN H <| So (m_ l2) fun x => K (vi x) []
def yea (m_ : Y12) : Spec := ⟨y7b m_, (true : Bool)⟩
def y6c (m_ : Y12) (args : List V) (H : Heap) (K : V → Heap → Prop) : Prop :=
  aC args fun a0 r => aN r <| aAgg a0 fun c0 => y38 c0 fun l2 => aN H <| So (m_ l2) fun x => K (vi x) []
def ycv (m_ : Y12) : Spec := ⟨y6c m_, (true : Bool)⟩
def y9j (m_ : Y12) (args : List V) (H : Heap) (K : V → Heap → Prop) : Prop :=
  aC args fun a0 r => aN r <| aAgg a0 fun c0 => y38 c0 fun l2 => aN H <| So (m_ l2) fun x => K (vi x) []
def ye1 (m_ : Y12) : Spec := ⟨y9j m_, (true : Bool)⟩
def y9d (m_ : Y12) (args : List V) (H : Heap) (K : V → Heap → Prop) : Prop :=
  aC args fun a0 r => aN r <| aAgg a0 fun c0 => y38 c0 fun l2 => aN H <| So (m_ l2) fun x => K (vi x) []
def ye4 (m_ : Y12) : Spec := ⟨y9d m_, (true : Bool)⟩
def y5z (m_ : Y12) (args : List V) (H : Heap) (K : V → Heap → Prop) : Prop :=
  aC args fun a0 r => aN r <| aAgg a0 fun c0 => y38 c0 fun l2 => aN H <| So (m_ l2) fun x => K (vi x) []
def yec (m_ : Y12) : Spec := ⟨y5z m_, (true : Bool)⟩
abbrev Y45 := Int → Int → Int → Option Int
def y7j (m_ : Y45) (args : List V) (H : Heap) (K : V → Heap → Prop) : Prop :=
  aC args fun a0 r => aC r fun a1 r => aC r fun a2 r => aN r <| aInt a0 fun n => aInt a1 fun low => aInt a2 fun high => aN H <| So (m_ n low high) fun x => K (vi x) []
def y9x (m_ : Y45) : Spec := ⟨y7j m_, (true : Bool)⟩
abbrev Y36 := yb → Option yb
def y88 (m_ : Y36) (args : List V) (H : Heap) (K : V → Heap → Prop) : Prop :=
  aC args fun a0 r => aN r <| aAgg a0 fun c0 => y3e c0 fun c => aN H <| So (m_ c) fun x => K (.agg (y1j x)) []
def yb6 (m_ : Y36) : Spec := ⟨y88 m_, (true : Bool)⟩
def yd9  : Cfg := { cfgB with
  sigs := sigN }
def yca  : Cfg := { cfgB with
  sigs := sigN }
def yc6 (y1m y1k : Y12) : Cfg := { cfgB with
  sigs := (sigC 150 (yak y1m) (sigC 151 (ybh y1k) sigN)),
  plan := fun r => match r with | 1 => some ([0, 2, 5, 6, 7, 8, 1, 3, 4, 9, 10], 0) | _ => none }
def ycp (y1r : Y12) : Cfg := { cfgB with
  sigs := (sigC 142 (ybm y1r) sigN) }
def ydg (y2n : Y12) : Cfg := { cfgB with
  sigs := (sigC 105 (yea y2n) sigN),
  plan := fun r => match r with | 1 => some ([0, 2, 3, 4, 5, 6, 7, 8, 9, 10, 1, 11, 12], 0) | _ => none }
def ycl (y1u : Y12) : Cfg := { cfgB with
  sigs := (sigC 69 (ycv y1u) sigN),
  plan := fun r => match r with | 1 => some ([0, 2, 3, 4, 5, 6, 1, 7, 8], 0) | _ => none }
def ye2 (y2k : Y12) : Cfg := { cfgB with
  sigs := (sigC 38 (ye1 y2k) sigN),
  plan := fun r => match r with | 1 => some ([0, 2, 3, 4, 5, 1, 6, 7, 8, 9, 10], 0) | _ => none }
def ydy (y1i : Y12) : Cfg := { cfgB with
  sigs := (sigC 9 (ye4 y1i) sigN),
  plan := fun r => match r with | 1 => some ([0, 2, 3, 4, 5, 1, 6, 7], 0) | _ => none }
def ya0  : Cfg := { cfgB with
  sigs := sigN }
def ydo (y07 : Y45) : Cfg := { cfgB with
  sigs := (sigC 103 (y9x y07) sigN),
  plan := fun r => match r with | 1 => some ([0, 1, 3, 4, 6, 7, 9, 10, 12, 13, 15, 16, 18, 19, 21, 22, 24, 25, 27, 28, 30, 31, 2, 5, 8, 11, 14, 17, 20, 23, 26, 29, 32, 33, 34], 3) | _ => none,
  flag := fun d => Nat.beq d 2 }
theorem yfr (l2 : yf) (K : V → Heap → Prop) : (exF yd9 Tryz.f151 [.agg (y39 l2)] [] K) = (
    K (vi (IntKind.i64.wrap (Int.tdiv (IntKind.i64.wrap (l2.C.Pages + 3)) 4))) []) := by kernel_rfl
theorem yi3 (l2 : yf) (K : V → Heap → Prop) : (exF yca Tryz.f150 [.agg (y39 l2)] [] K) = (
    K (vi (IntKind.i64.wrap (3 + l2.C.Stripes))) []) := by kernel_rfl
theorem yhz (y1m y1k : Y12) (l2 : yf) (K : V → Heap → Prop) : (exF (yc6 y1m y1k) Tryz.f142 [.agg (y39 l2)] [] K) = (
    So (y1m l2) (fun (y0 : Int) => (So (y1k l2) (fun (y1 : Int) => (K (vi (IntKind.i64.wrap (IntKind.i64.wrap (y0 + y1) + IntKind.i64.wrap (5 * l2.C.Pages)))) []))))) := by kernel_rfl
theorem ygi (y1r : Y12) (l2 : yf) (K : V → Heap → Prop) : (exF (ycp y1r) Tryz.f105 [.agg (y39 l2)] [] K) = (
    So (y1r l2) (fun (y0 : Int) => (K (vi (IntKind.i64.wrap (y0 + 62))) []))) := by kernel_rfl
theorem ygp (y2n : Y12) (l2 : yf) (K : V → Heap → Prop) : (exF (ydg y2n) Tryz.f69 [.agg (y39 l2)] [] K) = (
    So (y2n l2) (fun (y0 : Int) => (K (vi (IntKind.i64.wrap (y0 + IntKind.i64.wrap (IntKind.i64.wrap (5 * l2.C.CPUs) * IntKind.i64.wrap (l2.C.Cache + 1))))) []))) := by kernel_rfl
theorem ygf (y1u : Y12) (l2 : yf) (K : V → Heap → Prop) : (exF (ycl y1u) Tryz.f38 [.agg (y39 l2)] [] K) = (
    So (y1u l2) (fun (y0 : Int) => (K (vi (IntKind.i64.wrap (y0 + IntKind.i64.wrap (5 * IntKind.i64.wrap (l2.C.Bin + 1))))) []))) := by kernel_rfl
theorem yjg (y2k : Y12) (l2 : yf) (K : V → Heap → Prop) : (exF (ye2 y2k) Tryz.f9 [.agg (y39 l2)] [] K) = (
    So (y2k l2) (fun (y0 : Int) => (K (vi (IntKind.i64.wrap (IntKind.i64.wrap (Int.tdiv (IntKind.i64.wrap (IntKind.i64.wrap (y0 + IntKind.i64.wrap (32 * l2.C.Pages)) + 127)) 128) * 128))) []))) := by kernel_rfl
theorem yjo (y1i : Y12) (l2 : yf) (K : V → Heap → Prop) : (exF (ydy y1i) Tryz.f37 [.agg (y39 l2)] [] K) = (
    So (y1i l2) (fun (y0 : Int) => (K (vi (IntKind.i64.wrap (y0 + IntKind.i64.wrap (32 * l2.C.Pages)))) []))) := by kernel_rfl
theorem yfd (n low high : Int) (K : V → Heap → Prop) : (exF ya0 Tryz.f103 [vi n, vi low, vi high] [] K) = (
    Req (!IntKind.u64.wrap (IntKind.i64.wrap (IntKind.i64.wrap (high - low) + 1)) == 0) (K (vi (IntKind.i64.wrap (low + IntKind.i64.wrap (Int.tmod (IntKind.u64.wrap n) (IntKind.u64.wrap (IntKind.i64.wrap (IntKind.i64.wrap (high - low) + 1))))))) [])) := by kernel_rfl
theorem yi6 (y07 : Y45) (c : yb) (K : V → Heap → Prop) : (exF (ydo y07) Tryz.f66 [.agg (y1j c)] [] K) = (
    So (y07 c.Workers 1 64) (fun (y0 : Int) => (So (y07 c.CPUs 1 8) (fun (y1 : Int) => (So (y07 c.Pages 1 256) (fun (y2 : Int) => (So (y07 c.Stripes 1 64) (fun (y3 : Int) => (So (y07 c.Tries 0 16) (fun (y4 : Int) => (So (y07 c.Wait 0 64) (fun (y5 : Int) => (So (y07 c.Clock 1 1099511627776) (fun (y6 : Int) => (So (y07 c.Private 1 8) (fun (y7 : Int) => (So (y07 c.Cache 0 8) (fun (y8 : Int) => (So (y07 c.Bin 0 16) (fun (y9 : Int) => (So (y07 c.Batch 1 8) (fun (y10 : Int) => (K (.agg [vi y0, vi y1, vi y2, vi y3, vi y4, vi y5, vi y6, vi y7, vi y8, vi y9, vi y10]) []))))))))))))))))))))))) := by kernel_rfl
def y1k (l2 : yf) : Option Int :=
  some (IntKind.i64.wrap (Int.tdiv (IntKind.i64.wrap (l2.C.Pages + 3)) 4))
def y1m (l2 : yf) : Option Int :=
  some (IntKind.i64.wrap (3 + l2.C.Stripes))
def y1r (l2 : yf) : Option Int :=
  ((y1m l2).bind fun y0 => ((y1k l2).bind fun y1 => some (IntKind.i64.wrap (IntKind.i64.wrap (y0 + y1) + IntKind.i64.wrap (5 * l2.C.Pages)))))
def y2n (l2 : yf) : Option Int :=
  ((y1r l2).bind fun y0 => some (IntKind.i64.wrap (y0 + 62)))
def y1u (l2 : yf) : Option Int :=
  ((y2n l2).bind fun y0 => some (IntKind.i64.wrap (y0 + IntKind.i64.wrap (IntKind.i64.wrap (5 * l2.C.CPUs) * IntKind.i64.wrap (l2.C.Cache + 1)))))
def y2k (l2 : yf) : Option Int :=
  ((y1u l2).bind fun y0 => some (IntKind.i64.wrap (y0 + IntKind.i64.wrap (5 * IntKind.i64.wrap (l2.C.Bin + 1)))))
def y1i (l2 : yf) : Option Int :=
  ((y2k l2).bind fun y0 => some (IntKind.i64.wrap (IntKind.i64.wrap (Int.tdiv (IntKind.i64.wrap (IntKind.i64.wrap (y0 + IntKind.i64.wrap (32 * l2.C.Pages)) + 127)) 128) * 128)))
def y1s (l2 : yf) : Option Int :=
  ((y1i l2).bind fun y0 => some (IntKind.i64.wrap (y0 + IntKind.i64.wrap (32 * l2.C.Pages))))
def y3c (ok : Bool) (a : Int) : Option Int :=
  (bif (!ok) then some 0 else some a)
def y59 (l2 : yf) (k : Int) : Option Int :=
  (bif (decide (k ≥ 0)) then ((y1k l2).bind fun y0 => ((y1m l2).bind fun y1 => ((y3c (decide (k < y0)) (IntKind.i64.wrap (y1 + k))).bind fun y2 => some y2))) else ((y1m l2).bind fun y3 => ((y3c false (IntKind.i64.wrap (y3 + k))).bind fun y4 => some y4)))
def y3s (l2 : yf) (n p : Int) : Option Int :=
  (bif (decide (p ≥ 0)) then ((y1m l2).bind fun y0 => ((y1k l2).bind fun y1 => ((y3c (decide (p < l2.C.Pages)) (IntKind.i64.wrap (IntKind.i64.wrap (IntKind.i64.wrap (y0 + y1) + IntKind.i64.wrap (n * l2.C.Pages)) + p))).bind fun y2 => some y2))) else ((y1m l2).bind fun y3 => ((y1k l2).bind fun y4 => ((y3c false (IntKind.i64.wrap (IntKind.i64.wrap (IntKind.i64.wrap (y3 + y4) + IntKind.i64.wrap (n * l2.C.Pages)) + p))).bind fun y5 => some y5))))
def y3x (l2 : yf) (p : Int) : Option Int :=
  ((y3s l2 0 p).bind fun y0 => some y0)
def y1n (l2 : yf) (p : Int) : Option Int :=
  ((y3s l2 1 p).bind fun y0 => some y0)
def y1l (l2 : yf) (p : Int) : Option Int :=
  ((y3s l2 2 p).bind fun y0 => some y0)
def y3n (l2 : yf) (p : Int) : Option Int :=
  ((y3s l2 3 p).bind fun y0 => some y0)
def y4a (l2 : yf) (p : Int) : Option Int :=
  ((y3s l2 4 p).bind fun y0 => some y0)
def yi1 (c n iv : Int) : Option ((Int × Int) ⊕ Int) :=
  (bif (decide (iv < c)) then (bif (decide (iv < 5)) then some (.inl ((IntKind.i64.wrap (Int.tdiv n 2)), (IntKind.i64.wrap (iv + 1)))) else some (.inr n)) else some (.inr n))
def ygy (c : Int) (s : Int × Int) : Option Int :=
  loopO (fun s => yi1 c s.1 s.2) s
def y3g (c : Int) : Option Int :=
  (ygy c (32, 0))
def y4y (l2 : yf) (c f : Int) (ahead iv : Int) : Option ((Int × Int) ⊕ Int) :=
  (bif (decide (iv < c)) then ((y3g iv).bind fun y0 => some (.inl ((IntKind.i64.wrap (ahead + y0)), (IntKind.i64.wrap (iv + 1))))) else (bif (decide (f ≥ 1)) then ((y3g c).bind fun y1 => ((y1r l2).bind fun y2 => ((y3c (decide (f ≤ y1)) (IntKind.i64.wrap (IntKind.i64.wrap (IntKind.i64.wrap (y2 + ahead) + f) - 1))).bind fun y3 => some (.inr y3)))) else ((y1r l2).bind fun y4 => ((y3c false (IntKind.i64.wrap (IntKind.i64.wrap (IntKind.i64.wrap (y4 + ahead) + f) - 1))).bind fun y5 => some (.inr y5)))))
def yg4 (l2 : yf) (c f : Int) (s : Int × Int) : Option Int :=
  loopO (fun s => y4y l2 c f s.1 s.2) s
def y3z (l2 : yf) (c f : Int) : Option Int :=
  (bif (decide (c < 0)) then some 0 else (bif (decide (c > 4)) then some 0 else (yg4 l2 c f (0, 0))))
def y4h (l2 : yf) (p : Int) : Option Int :=
  (bif (decide (p ≥ 0)) then ((y1i l2).bind fun y0 => ((y3c (decide (p < l2.C.Pages)) (IntKind.i64.wrap (y0 + IntKind.i64.wrap (32 * p)))).bind fun y1 => some y1)) else ((y1i l2).bind fun y2 => ((y3c false (IntKind.i64.wrap (y2 + IntKind.i64.wrap (32 * p)))).bind fun y3 => some y3)))
def y57 (l2 : yf) (a : Int) : Option (Int × Int × Bool) :=
  ((y1i l2).bind fun y0 => (bif (decide (a < y0)) then some (0, 0, false) else ((y1s l2).bind fun y1 => (bif (decide (a ≥ y1)) then some (0, 0, false) else ((y1i l2).bind fun y2 => some ((IntKind.i64.wrap (Int.tdiv (IntKind.i64.wrap (a - y2)) 32)), (Int.tmod (IntKind.i64.wrap (a - y2)) 32), true))))))
def y07 (n low high : Int) : Option Int :=
  (bif (!IntKind.u64.wrap (IntKind.i64.wrap (IntKind.i64.wrap (high - low) + 1)) == 0) then some (IntKind.i64.wrap (low + IntKind.i64.wrap (Int.tmod (IntKind.u64.wrap n) (IntKind.u64.wrap (IntKind.i64.wrap (IntKind.i64.wrap (high - low) + 1)))))) else none)
def y2b (c : yb) : Option yb :=
  ((y07 c.Workers 1 64).bind fun y0 => ((y07 c.CPUs 1 8).bind fun y1 => ((y07 c.Pages 1 256).bind fun y2 => ((y07 c.Stripes 1 64).bind fun y3 => ((y07 c.Tries 0 16).bind fun y4 => ((y07 c.Wait 0 64).bind fun y5 => ((y07 c.Clock 1 1099511627776).bind fun y6 => ((y07 c.Private 1 8).bind fun y7 => ((y07 c.Cache 0 8).bind fun y8 => ((y07 c.Bin 0 16).bind fun y9 => ((y07 c.Batch 1 8).bind fun y10 => some (yb.mk y0 y1 y2 y3 y4 y5 y6 y7 y8 y9 y10))))))))))))
attribute [local irreducible] Loop ex exF contK roundK retK at_ bodyOf mkEnv
theorem yhj : SpecOK Tryz.prog elTT 151 (ybh y1k) := by
  refine spec_of_exF (cfg := yd9) (yg rfl rfl rfl) yk (fn := Tryz.f151) (by kernel_rfl) (by kernel_rfl) (by kernel_rfl) ?_
  intro args H K h
  change y7d y1k args H K at h
  unfold y7d at h
  repeat first | (obtain ⟨_, h⟩ := h) | replace h := Des.el h
  subst_vars
  refine Eq.mpr (yfr _ K) ?_
  unfold y1k at h
  revert h
  exact fun h => h
theorem yfe : SpecOK Tryz.prog elTT 150 (yak y1m) := by
  refine spec_of_exF (cfg := yca) (yg rfl rfl rfl) yk (fn := Tryz.f150) (by kernel_rfl) (by kernel_rfl) (by kernel_rfl) ?_
  intro args H K h
  change y5w y1m args H K at h
  unfold y5w at h
  repeat first | (obtain ⟨_, h⟩ := h) | replace h := Des.el h
  subst_vars
  refine Eq.mpr (yi3 _ K) ?_
  unfold y1m at h
  revert h
  exact fun h => h
theorem yfx : SpecOK Tryz.prog elTT 142 (ybm y1r) := by
  refine spec_of_exF (cfg := (yc6 y1m y1k)) (yg rfl rfl rfl) (yd yfe (yd yhj yk)) (fn := Tryz.f142) (by kernel_rfl) (by kernel_rfl) (by kernel_rfl) ?_
  intro args H K h
  change y76 y1r args H K at h
  unfold y76 at h
  repeat first | (obtain ⟨_, h⟩ := h) | replace h := Des.el h
  subst_vars
  refine Eq.mpr (yhz y1m y1k _ K) ?_
  unfold y1r at h
  revert h
  exact bind_So fun y0 => bind_So fun y1 => fun h => h
theorem ygx : SpecOK Tryz.prog elTT 105 (yea y2n) := by
  refine spec_of_exF (cfg := (ycp y1r)) (yg rfl rfl rfl) (yd yfx yk) (fn := Tryz.f105) (by kernel_rfl) (by kernel_rfl) (by kernel_rfl) ?_
  intro args H K h
  change y7b y2n args H K at h
  unfold y7b at h
  repeat first | (obtain ⟨_, h⟩ := h) | replace h := Des.el h
  subst_vars
  refine Eq.mpr (ygi y1r _ K) ?_
  unfold y2n at h
  revert h
  exact bind_So fun y0 => fun h => h
theorem ygl : SpecOK Tryz.prog elTT 69 (ycv y1u) := by
  refine spec_of_exF (cfg := (ydg y2n)) (yg rfl rfl rfl) (yd ygx yk) (fn := Tryz.f69) (by kernel_rfl) (by kernel_rfl) (by kernel_rfl) ?_
  intro args H K h
  change y6c y1u args H K at h
  unfold y6c at h
  repeat first | (obtain ⟨_, h⟩ := h) | replace h := Des.el h
  subst_vars
  refine Eq.mpr (ygp y2n _ K) ?_
  unfold y1u at h
  revert h
  exact bind_So fun y0 => fun h => h
theorem yev : SpecOK Tryz.prog elTT 38 (ye1 y2k) := by
  refine spec_of_exF (cfg := (ycl y1u)) (yg rfl rfl rfl) (yd ygl yk) (fn := Tryz.f38) (by kernel_rfl) (by kernel_rfl) (by kernel_rfl) ?_
  intro args H K h
  change y9j y2k args H K at h
  unfold y9j at h
  repeat first | (obtain ⟨_, h⟩ := h) | replace h := Des.el h
  subst_vars
  refine Eq.mpr (ygf y1u _ K) ?_
  unfold y2k at h
  revert h
  exact bind_So fun y0 => fun h => h
theorem yjr : SpecOK Tryz.prog elTT 9 (ye4 y1i) := by
  refine spec_of_exF (cfg := (ye2 y2k)) (yg rfl rfl rfl) (yd yev yk) (fn := Tryz.f9) (by kernel_rfl) (by kernel_rfl) (by kernel_rfl) ?_
  intro args H K h
  change y9d y1i args H K at h
  unfold y9d at h
  repeat first | (obtain ⟨_, h⟩ := h) | replace h := Des.el h
  subst_vars
  refine Eq.mpr (yjg y2k _ K) ?_
  unfold y1i at h
  revert h
  exact bind_So fun y0 => fun h => h
theorem ygj : SpecOK Tryz.prog elTT 37 (yec y1s) := by
  refine spec_of_exF (cfg := (ydy y1i)) (yg rfl rfl rfl) (yd yjr yk) (fn := Tryz.f37) (by kernel_rfl) (by kernel_rfl) (by kernel_rfl) ?_
  intro args H K h
  change y5z y1s args H K at h
  unfold y5z at h
  repeat first | (obtain ⟨_, h⟩ := h) | replace h := Des.el h
  subst_vars
  refine Eq.mpr (yjo y1i _ K) ?_
  unfold y1s at h
  revert h
  exact bind_So fun y0 => fun h => h
theorem yf6 : SpecOK Tryz.prog elTT 103 (y9x y07) := by
  refine spec_of_exF (cfg := ya0) (yg rfl rfl rfl) yk (fn := Tryz.f103) (by kernel_rfl) (by kernel_rfl) (by kernel_rfl) ?_
  intro args H K h
  change y7j y07 args H K at h
  unfold y7j at h
  repeat first | (obtain ⟨_, h⟩ := h) | replace h := Des.el h
  subst_vars
  refine Eq.mpr (yfd _ _ _ K) ?_
  unfold y07 at h
  revert h
  exact req_So (fun h => h)
theorem yfa : SpecOK Tryz.prog elTT 66 (yb6 y2b) := by
  refine spec_of_exF (cfg := (ydo y07)) (yg rfl rfl rfl) (yd yf6 yk) (fn := Tryz.f66) (by kernel_rfl) (by kernel_rfl) (by kernel_rfl) ?_
  intro args H K h
  change y88 y2b args H K at h
  unfold y88 at h
  repeat first | (obtain ⟨_, h⟩ := h) | replace h := Des.el h
  subst_vars
  refine Eq.mpr (yi6 y07 _ K) ?_
  unfold y2b at h
  revert h
  exact bind_So fun y0 => bind_So fun y1 => bind_So fun y2 => bind_So fun y3 => bind_So fun y4 => bind_So fun y5 => bind_So fun y6 => bind_So fun y7 => bind_So fun y8 => bind_So fun y9 => bind_So fun y10 => fun h => h
end Go.Rx
end

section
namespace Go.Rx
open Go.Proofs
theorem wrap_u64' (x : Int) : IntKind.wrap IntKind.u64 x = x % 18446744073709551616 := rfl
theorem within_eq {n low high : Int} (h : 0 ≤ low ∧ low ≤ high ∧ high ≤ 1099511627776) : ∃ x, y07 n low high = some x ∧ low ≤ x ∧ x ≤ high := by
  unfold y07
  have hu : ∀ x : Int, 0 ≤ x → x < 18446744073709551616 → IntKind.wrap IntKind.u64 x = x := fun x h1 h2 => by
    rw [wrap_u64']; omega
  have hn : ∀ x : Int, 0 ≤ IntKind.wrap IntKind.u64 x := fun x => by
    rw [wrap_u64']; exact Int.emod_nonneg _ (by decide)
  rw [wrap_id (x := high - low) (by omega) (by omega), wrap_id (x := high - low + 1) (by omega) (by omega), hu (high - low + 1) (by omega) (by omega)]
  have e : (!(high - low + 1 == 0)) = true := by simp; omega
  rw [e, cond_true]
  have h0 := hn n
  generalize IntKind.wrap IntKind.u64 n = m at *
  rw [Int.tmod_eq_emod_of_nonneg h0]
  have h1 := Int.emod_nonneg m (b := high - low + 1) (by omega)
  have h2 := Int.emod_lt_of_pos m (b := high - low + 1) (by omega)
  generalize m % (high - low + 1) = k at *
  refine ⟨_, rfl, ?_⟩
  rw [wrap_id (x := k) (by omega) (by omega), wrap_id (by omega) (by omega)]
  omega
theorem Some_eq (c : yb) : ∃ d, y2b c = some d ∧ RightC d := by
  unfold y2b
  obtain ⟨a0, e0, h0⟩ := within_eq (n := c.Workers) (low := 1) (high := 64) (by omega)
  obtain ⟨a1, e1, h1⟩ := within_eq (n := c.CPUs) (low := 1) (high := 8) (by omega)
  obtain ⟨a2, e2, h2⟩ := within_eq (n := c.Pages) (low := 1) (high := 256) (by omega)
  obtain ⟨a3, e3, h3⟩ := within_eq (n := c.Stripes) (low := 1) (high := 64) (by omega)
  obtain ⟨a4, e4, h4⟩ := within_eq (n := c.Tries) (low := 0) (high := 16) (by omega)
  obtain ⟨a5, e5, h5⟩ := within_eq (n := c.Wait) (low := 0) (high := 64) (by omega)
  obtain ⟨a6, e6, h6⟩ := within_eq (n := c.Clock) (low := 1) (high := 1099511627776) (by omega)
  obtain ⟨a7, e7, h7⟩ := within_eq (n := c.Private) (low := 1) (high := 8) (by omega)
  obtain ⟨a8, e8, h8⟩ := within_eq (n := c.Cache) (low := 0) (high := 8) (by omega)
  obtain ⟨a9, e9, h9⟩ := within_eq (n := c.Bin) (low := 0) (high := 16) (by omega)
  obtain ⟨a10, e10, h10⟩ := within_eq (n := c.Batch) (low := 1) (high := 8) (by omega)
  rw [e0, e1, e2, e3, e4, e5, e6, e7, e8, e9, e10]
  exact ⟨_, rfl, h0, h1, h2, h3, h4, h5, h6, h7, h8, h9, h10⟩
section
variable {c : yb}
theorem rChunks_eq (h : RightC c) : y1k ⟨c⟩ = some ((c.Pages + 3) / 4) := by
  have := h.pages
  unfold y1k
  simp only
  rw [wrap_id (x := c.Pages + 3) (by omega) (by omega), Int.tdiv_eq_ediv_of_nonneg (by omega), wrap_id (by omega) (by omega)]
theorem rtable_eq (h : RightC c) : y1m ⟨c⟩ = some (layC c).at_0 := by
  have := h.stripes
  unfold y1m
  simp only [layC]
  rw [wrap_id (by omega) (by omega)]
theorem rheads_eq (h : RightC c) : y1r ⟨c⟩ = some (layC c).at_6 := by
  have := h.stripes; have := h.pages
  unfold y1r
  rw [rtable_eq h, rChunks_eq h]
  simp only [layC, Option.bind_some]
  simp (disch := omega) only [wrap_id]
theorem rcaches_eq (h : RightC c) : y2n ⟨c⟩ = some (layC c).at_7 := by
  have := h.stripes; have := h.pages
  unfold y2n
  rw [rheads_eq h]
  simp only [layC, Option.bind_some]
  simp (disch := omega) only [wrap_id]
theorem rbins_eq (h : RightC c) : y1u ⟨c⟩ = some (layC c).at_8 := by
  have := h.stripes; have := h.pages; have := h.cpus; have := h.cache
  have hp := prodC h
  unfold y1u
  rw [rcaches_eq h]
  simp only [layC, Option.bind_some]
  have e : 5 * c.CPUs = c.CPUs * 5 := Int.mul_comm _ _
  rw [wrap_id (x := 5 * c.CPUs) (by omega) (by omega), wrap_id (x := c.Cache + 1) (by omega) (by omega), e]
  generalize c.CPUs * 5 * (c.Cache + 1) = q at *
  simp (disch := omega) only [wrap_id]
theorem rlive_eq (h : RightC c) : y2k ⟨c⟩ = some (layC c).at_9 := by
  have := h.stripes; have := h.pages; have := h.bin
  have hp := prodC h
  unfold y2k
  rw [rbins_eq h]
  simp only [layC, Option.bind_some]
  generalize c.CPUs * 5 * (c.Cache + 1) = q at *
  simp (disch := omega) only [wrap_id]
theorem rUser_eq (h : RightC c) : y1i ⟨c⟩ = some (layC c).at_10 := by
  have := h.stripes; have := h.pages; have := h.bin
  have hp := prodC h
  unfold y1i
  rw [rlive_eq h]
  simp only [layC, Option.bind_some]
  generalize c.CPUs * 5 * (c.Cache + 1) = q at *
  simp (disch := omega) only [wrap_id, Int.tdiv_eq_ediv_of_nonneg, Int.mul_comm 32]
theorem rWords_eq (h : RightC c) : y1s ⟨c⟩ = some (layC c).at_11 := by
  have := h.stripes; have := h.pages; have := h.bin
  have hb := (layC_ok h).big
  unfold y1s
  rw [rUser_eq h]
  have e : (layC c).at_11 = (layC c).at_10 + c.Pages * 32 := rfl
  rw [e]
  generalize (layC c).at_10 = q at *
  simp only [Option.bind_some]
  simp (disch := omega) only [wrap_id, Int.mul_comm 32]
theorem rat_eq (ok : Bool) (a : Int) : y3c ok a = some (if ok = true then a else 0) := by
  unfold y3c; cases ok <;> rfl
theorem rTable_eq (h : RightC c) (k : Int) : y59 ⟨c⟩ k = some (lTab (layC c) k) := by
  have := h.stripes; have := h.pages
  unfold y59
  rw [rtable_eq h, rChunks_eq h]
  simp only [Option.bind_some, rat_eq, lTab]
  have e0 : (layC c).at_0 = 3 + c.Stripes := rfl
  have e1 : (layC c).c = c := rfl
  rw [e0, e1]
  by_cases a : 0 ≤ k
  · rw [decide_eq_true (show k ≥ 0 from a), cond_true]
    by_cases b : k < (c.Pages + 3) / 4
    · rw [decide_eq_true b, if_pos rfl, if_pos ⟨a, b⟩, wrap_id (by omega) (by omega)]
    · rw [decide_eq_false b, if_neg (by decide), if_neg (by omega)]
  · rw [decide_eq_false (show ¬ k ≥ 0 from a), cond_false, if_neg (by decide), if_neg (by omega)]
theorem rpage_eq (h : RightC c) {n p : Int} (hn : 0 ≤ n ∧ n ≤ 4) : y3s ⟨c⟩ n p = some (lPg (layC c) ((layC c).at_1 + n * c.Pages) p) := by
  have := h.stripes; have hpg := h.pages
  unfold y3s
  rw [rtable_eq h, rChunks_eq h]
  simp only [Option.bind_some, rat_eq, lPg]
  have e0 : (layC c).at_0 = 3 + c.Stripes := rfl
  have e2 : (layC c).at_1 = 3 + c.Stripes + (c.Pages + 3) / 4 := rfl
  have e1 : (layC c).c = c := rfl
  rw [e0, e1, e2]
  have hm := mul_b (x := n) (y := c.Pages) (a := 4) (b := 256) (by omega) (by omega)
  by_cases a : 0 ≤ p
  · rw [decide_eq_true (show p ≥ 0 from a), cond_true]
    by_cases b : p < c.Pages
    · rw [decide_eq_true b, if_pos rfl, if_pos ⟨a, b⟩]
      generalize n * c.Pages = q at *
      simp (disch := omega) only [wrap_id]
    · rw [decide_eq_false b, if_neg (by decide), if_neg (by omega)]
  · rw [decide_eq_false (show ¬ p ≥ 0 from a), cond_false, if_neg (by decide), if_neg (by omega)]
theorem rKind_eq (h : RightC c) (p : Int) : y3x ⟨c⟩ p = some (lPg (layC c) (layC c).at_1 p) := by
  unfold y3x; rw [rpage_eq h (by omega), Option.bind_some]; simp
theorem rCount_eq (h : RightC c) (p : Int) : y1n ⟨c⟩ p = some (lPg (layC c) (layC c).at_2 p) := by
  unfold y1n; rw [rpage_eq h (by omega), Option.bind_some]; simp [layC]
theorem rBits_eq (h : RightC c) (p : Int) : y1l ⟨c⟩ p = some (lPg (layC c) (layC c).at_3 p) := by
  unfold y1l; rw [rpage_eq h (by omega), Option.bind_some]; simp [layC]
theorem rNext_eq (h : RightC c) (p : Int) : y3n ⟨c⟩ p = some (lPg (layC c) (layC c).at_4 p) := by
  unfold y3n; rw [rpage_eq h (by omega), Option.bind_some]; simp [layC]
theorem rPrev_eq (h : RightC c) (p : Int) : y4a ⟨c⟩ p = some (lPg (layC c) (layC c).at_5 p) := by
  unfold y4a; rw [rpage_eq h (by omega), Option.bind_some]; simp [layC]
end
end Go.Rx
end

noncomputable section
namespace Go.Rx
open Go.Proofs
set_option maxRecDepth 100000
set_option maxHeartbeats 4000000
def y4k (p : Int) : Option Int :=
  (bif (decide (p < 0)) then some (-1) else some (IntKind.i64.wrap (Int.tdiv p 4)))
def y56 (l2 : yf) (k : Int) : Option Bool :=
  (bif (decide (k ≥ 0)) then ((y1k l2).bind fun y0 => some (decide (k < y0))) else some false)
def y4p (l2 : yf) (k : Int) (w : List Int) : Option Bool :=
  ((y56 l2 k).bind fun y0 => (bif y0 then ((y59 l2 k).bind fun y1 => (bif (inR y1 w.length) then (bif (inR (offs y1 0) w.length) then some (w.getD (offs y1 0).toNat 0 == 1) else none) else none)) else some false))
def y7e (l2 : yf) (w : List Int) (n p : Int) : Option ((Int × Int) ⊕ Int) :=
  (bif (decide (p < l2.C.Pages)) then ((y4k p).bind fun y0 => ((y4p l2 y0 w).bind fun y1 => (bif y1 then some (.inl ((IntKind.i64.wrap (n + 1)), (IntKind.i64.wrap (p + 1)))) else some (.inl (n, (IntKind.i64.wrap (p + 1))))))) else some (.inr n))
def yip (l2 : yf) (w : List Int) (s : Int × Int) : Option Int :=
  loopO (fun s => y7e l2 w s.1 s.2) s
def y5f (l2 : yf) (w : List Int) : Option Int :=
  (yip l2 w (0, 0))
def y8l (l2 : yf) (k xv : Int) (w : List Int) : Option (Bool × (List Int)) :=
  ((y56 l2 k).bind fun y0 => (bif (!y0) then some (false, w) else ((y4p l2 k w).bind fun y1 => (bif (y1 == (xv == 1)) then some (false, w) else ((y59 l2 k).bind fun y2 => (bif (inR y2 w.length) then (bif (inR (offs y2 0) w.length) then some (true, (List.set w (offs y2 0).toNat xv)) else none) else none))))))
def y9m (l2 : yf) (p n : Int) : Option Bool :=
  (bif (decide (n ≥ 1)) then (bif (decide (p ≥ 0)) then (bif (decide (p < l2.C.Pages)) then some (decide (n ≤ IntKind.i64.wrap (l2.C.Pages - p))) else some false) else some false) else some false)
def y6h (l2 : yf) (p n : Int) (was iv : Int) (w2 : List Int) : Option ((Int × (List Int)) ⊕ (Int × (List Int))) :=
  (bif (decide (iv < IntKind.i64.wrap (p + n))) then ((y4k iv).bind fun y0 => ((y8l l2 y0 1 w2).bind fun y1 => some (.inl ((IntKind.i64.wrap (iv + 1)), y1.2)))) else ((y5f l2 w2).bind fun y2 => some (.inr ((IntKind.i64.wrap (y2 - was)), w2))))
def yhl (l2 : yf) (p n was : Int) (s : Int × (List Int)) : Option (Int × (List Int)) :=
  loopO (fun s => y6h l2 p n was s.1 s.2) s
def y5l (l2 : yf) (p n : Int) (w : List Int) : Option (Int × (List Int)) :=
  ((y9m l2 p n).bind fun y0 => (bif (!y0) then some (0, w) else ((y5f l2 w).bind fun y1 => (yhl l2 p n y1 (p, w)))))
attribute [local irreducible] Loop ex exF contK roundK retK at_ bodyOf mkEnv
end Go.Rx
end

section
namespace Go.Rx
open Go.Proofs
section
variable {L : ya} {nw : Nat} {cur : List Int}
theorem Mapped_eq (v : VOK L nw cur) (k : Int) : y2a nw cur L k = some (isB cur L.c.Pages L.at_0 k 1) := by
  unfold y2a; rw [is_eq v]; rfl
theorem cntN_le (cur : List Int) (pg tb : Int) : ∀ n : Nat, 0 ≤ cntN cur pg tb n ∧ cntN cur pg tb n ≤ 4 * (n : Int)
  | 0 => by simp [cntN]
  | n + 1 => by
    have h := cntN_le cur pg tb n
    have h2 := pagesN_le pg n
    simp only [cntN]
    cases isB cur pg tb n 1 <;> simp only [cond_true, cond_false] <;> omega
end
section
variable {c : yb}
theorem rOf_eq {p : Int} (h : -9223372036854775808 ≤ p ∧ p ≤ 9223372036854775807) : y4k p = some (chunkI p) := by
  unfold y4k chunkI
  by_cases a : p < 0
  · rw [decide_eq_true a]; rfl
  · rw [decide_eq_false a, Int.tdiv_eq_ediv_of_nonneg (by omega), wrap_id (by omega) (by omega)]; rfl
theorem rthere_eq (h : RightC c) (k : Int) : y56 ⟨c⟩ k = some (thereB c.Pages k) := by
  unfold y56 thereB
  rw [rChunks_eq h]
  by_cases a : 0 ≤ k
  · rw [decide_eq_true (show k ≥ 0 from a)]; rfl
  · rw [decide_eq_false (show ¬ k ≥ 0 from a)]; rfl
theorem rMapped_eq (h : RightC c) {w : List Int} (v : VOK (layC c) w.length w) (k : Int) : y4p ⟨c⟩ k w = some (isB w c.Pages (layC c).at_0 k 1) := by
  unfold y4p isB
  simp only [rthere_eq h, rTable_eq h, Option.bind_some]
  cases hk : thereB c.Pages k with
  | false => rfl
  | true =>
    obtain ⟨h1, h2⟩ := tab_in v hk
    have ho : offs ((layC c).at_0 + k) 0 = (layC c).at_0 + k := by
      obtain ⟨k1, k2⟩ := there_of hk
      have := v.tab
      have e : (layC c).at_0 + k = ((((layC c).at_0 + k).toNat : Nat) : Int) := by omega
      rw [e]; rfl
    simp only [cond_true, h1, h2, ho, Bool.true_and]
theorem rTurn_eq (h : RightC c) {w : List Int} (v : VOK (layC c) w.length w) (k st : Int) : y8l ⟨c⟩ k st w = some (turnB w c.Pages (layC c).at_0 k st, turnU w c.Pages (layC c).at_0 k st) := by
  unfold y8l turnU turnB
  simp only [rthere_eq h, rTable_eq h, rMapped_eq h v, Option.bind_some]
  cases hk : thereB c.Pages k with
  | false => rfl
  | true =>
    obtain ⟨h1, h2⟩ := tab_in v hk
    have ho : offs ((layC c).at_0 + k) 0 = (layC c).at_0 + k := by
      obtain ⟨k1, k2⟩ := there_of hk
      have := v.tab
      have e : (layC c).at_0 + k = ((((layC c).at_0 + k).toNat : Nat) : Int) := by omega
      rw [e]; rfl
    have e : isB w c.Pages (layC c).at_0 k 1 = (w.getD ((layC c).at_0 + k).toNat 0 == 1) := by unfold isB; rw [hk]; rfl
    rw [e]
    simp only [Bool.not_true, cond_false, h1, h2, ho, cond_true, Bool.true_and]
    cases (w.getD ((layC c).at_0 + k).toNat 0 == 1) == (st == 1) <;> rfl
theorem rall_eq (h : RightC c) (p n : Int) : y9m ⟨c⟩ p n = some (spanB c.Pages p n) := by
  have hpg := h.pages
  unfold y9m spanB
  by_cases a : 1 ≤ n
  · rw [decide_eq_true (show n ≥ 1 from a)]
    by_cases b : 0 ≤ p
    · rw [decide_eq_true (show p ≥ 0 from b)]
      by_cases d : p < c.Pages
      · rw [decide_eq_true d, wrap_id (x := c.Pages - p) (by omega) (by omega)]; rfl
      · rw [decide_eq_false d]; rfl
    · rw [decide_eq_false (show ¬ p ≥ 0 from b)]; rfl
  · rw [decide_eq_false (show ¬ n ≥ 1 from a)]; rfl
theorem rcN_le (cur : List Int) (pg tb : Int) : ∀ n : Nat, 0 ≤ rcN cur pg tb n ∧ rcN cur pg tb n ≤ (n : Int)
  | 0 => by simp [rcN]
  | n + 1 => by
    have h := rcN_le cur pg tb n
    simp only [rcN]
    cases isB cur pg tb ((n : Int) / 4) 1 <;> simp only [cond_true, cond_false] <;> omega
theorem rCount8_eq (h : RightC c) {w : List Int} (v : VOK (layC c) w.length w) : y5f ⟨c⟩ w = some (countM w c.Pages (layC c).at_0) := by
  unfold y5f
  have hpg := h.pages
  rw [← rc_count (by omega)]
  have hc : (c.Pages.toNat : Int) = c.Pages := by omega
  obtain ⟨r, h1, rfl⟩ := loopO_ind (step := fun s : Int × Int => y7e ⟨c⟩ w s.1 s.2)
    (I := fun s => ∃ j : Nat, j ≤ c.Pages.toNat ∧ s = (rcN w c.Pages (layC c).at_0 j, (j : Int))) (μ := fun s => c.Pages.toNat - s.2.toNat) (fun r => r = rcN w c.Pages (layC c).at_0 c.Pages.toNat) (by
      rintro _ ⟨j, hj, rfl⟩
      simp only [y7e]
      have hle := rcN_le w c.Pages (layC c).at_0 j
      by_cases e : j < c.Pages.toNat
      · have hch : chunkI (j : Int) = (j : Int) / 4 := by unfold chunkI; rw [decide_eq_false (by omega)]; rfl
        rw [decide_eq_true (show (j : Int) < c.Pages by omega), cond_true, rOf_eq (by omega), Option.bind_some, rMapped_eq h v, Option.bind_some, wrap_succ (by omega), wrap_id (by omega) (by omega), hch]
        refine .inl ⟨(rcN w c.Pages (layC c).at_0 (j + 1), ((j + 1 : Nat) : Int)), ?_, ⟨j + 1, e, rfl⟩, by simp only; omega⟩
        simp only [rcN]
        cases isB w c.Pages (layC c).at_0 ((j : Int) / 4) 1 <;> simp
      · have ej : j = c.Pages.toNat := by omega
        subst ej
        rw [decide_eq_false (by omega), cond_false]
        exact .inr ⟨_, rfl, rfl⟩) (0, 0) ⟨0, by omega, rfl⟩
  exact h1
theorem rensN_len (cur : List Int) (pg tb p : Int) : ∀ n, (rensN cur pg tb p n).length = cur.length
  | 0 => rfl
  | n + 1 => by rw [rensN, turnU_len, rensN_len]
theorem rEnsure_eq (h : RightC c) {w : List Int} (v : VOK (layC c) w.length w) (p n : Int) : y5l ⟨c⟩ p n w = some (ensM w c.Pages (layC c).at_0 p n) := by
  unfold y5l
  rw [rall_eq h, Option.bind_some]
  cases hs : spanB c.Pages p n with
  | false =>
    have hm : ensK c.Pages p n = 0 := by unfold ensK; rw [hs]; rfl
    unfold ensM; rw [hm]; rfl
  | true =>
    obtain ⟨s1, s2, s3, s4⟩ := span_of hs
    have hpg := h.pages
    rw [Bool.not_true, cond_false, rCount8_eq h v, Option.bind_some]
    have ht := v.tab
    have hv : ∀ j, VOK (layC c) (rensN w c.Pages (layC c).at_0 p j).length (rensN w c.Pages (layC c).at_0 p j) := fun j => ⟨v.lay, rfl, by rw [rensN_len]; exact v.all⟩
    have hcnt : ∀ u : List Int, 0 ≤ countM u c.Pages (layC c).at_0 ∧ countM u c.Pages (layC c).at_0 ≤ 1000 := fun u => by
      have := cntN_le u c.Pages (layC c).at_0 (chunksN c.Pages)
      unfold countM; unfold chunksN at *; omega
    obtain ⟨r, h1, rfl⟩ := loopO_ind (step := fun s : Int × List Int => y6h ⟨c⟩ p n (countM w c.Pages (layC c).at_0) s.1 s.2)
      (I := fun s => ∃ j : Nat, j ≤ n.toNat ∧ s = (p + j, rensN w c.Pages (layC c).at_0 p j)) (μ := fun s => (p + n - s.1).toNat) (fun r => r = ensM w c.Pages (layC c).at_0 p n) (by
        rintro _ ⟨j, hj, rfl⟩
        simp only [y6h]
        rw [wrap_id (x := p + n) (by omega) (by omega)]
        by_cases e : j < n.toNat
        · have hch : chunkI (p + j) = (p + j) / 4 := by unfold chunkI; rw [decide_eq_false (by omega)]; rfl
          rw [decide_eq_true (show p + (j : Int) < p + n by omega), cond_true, rOf_eq (by omega), Option.bind_some, rTurn_eq h (hv j), Option.bind_some, hch, wrap_id (x := p + (j : Int) + 1) (by omega) (by omega)]
          refine .inl ⟨(p + ((j + 1 : Nat) : Int), rensN w c.Pages (layC c).at_0 p (j + 1)), ?_, ⟨j + 1, by omega, rfl⟩, by simp only; omega⟩
          simp only [rensN]
          congr 3; omega
        · have ej : j = n.toNat := by omega
          subst ej
          rw [decide_eq_false (by omega), cond_false, rCount8_eq h (hv _), Option.bind_some, rens_all (pg := c.Pages) (by omega) ht.2 hs]
          have hce := count_ens (pg := c.Pages) (tb := (layC c).at_0) (cur := w) (by omega) ht.2 (p / 4) (ensK c.Pages p n)
          have hb := hcnt (ensM w c.Pages (layC c).at_0 p n).2
          have hb0 := hcnt w
          refine .inr ⟨_, rfl, ?_⟩
          unfold ensM at hb ⊢
          rw [hce] at hb ⊢
          rw [wrap_id (by omega) (by omega)]
          have : countM w c.Pages (layC c).at_0 + (ensG c.Pages (layC c).at_0 w (p / 4) (ensK c.Pages p n)).1 - countM w c.Pages (layC c).at_0 = (ensG c.Pages (layC c).at_0 w (p / 4) (ensK c.Pages p n)).1 := by omega
          rw [this]) (p, w) ⟨0, by omega, by simp [rensN]⟩
    exact h1
end
end Go.Rx
end

noncomputable section
namespace Go.Rx
open Go.Proofs
set_option maxRecDepth 100000
set_option maxHeartbeats 4000000
def y68 (m_ : Y36) (args : List V) (H : Heap) (K : V → Heap → Prop) : Prop :=
  aC args fun a0 r => aN r <| aAgg a0 fun c0 => y3e c0 fun c => aN H <| So (m_ c) fun x => K (.agg (y1j x)) []
def y64 (m_ : Y36) : Spec := ⟨y68 m_, (true : Bool)⟩
abbrev Y41 := yb → Option (ya × yf × (List Int))
def y7i (m_ : Y41) (args : List V) (H : Heap) (K : V → Heap → Prop) : Prop :=
  aC args fun a0 r => aN r <| aAgg a0 fun c0 => y3e c0 fun c => aN H <| So (m_ c) fun x => K (.tup [.agg (yc x.1), .agg (y39 x.2.1), .row 0]) [.row 0 x.2.2 false]
def ydd (m_ : Y41) : Spec := ⟨y7i m_, (true : Bool)⟩
def ycj (y2b : Y36) : Cfg := { cfgB with
  sigs := (sigC 66 (yb6 y2b) sigN) }
def ycy (y1e : Y36) (y0w : Y42) (y1s : Y12) : Cfg := { cfgB with
  sigs := (sigC 32 (y64 y1e) (sigC 33 (y6p y0w) (sigC 37 (yec y1s) sigN))),
  planT := fun r => match r with | 4 => some ((chainT [0, 1, 2, 3] (.alt (chainT [4, 5, 6, 7] .fin) (chainT [5] (.alt (chainT [4, 6, 7] .fin) (chainT [6, 4, 7] .fin))))), 3) | _ => none,
  flag := fun d => Nat.beq d 2 || Nat.beq d 3 }
theorem yhk (y2b : Y36) (c : yb) (K : V → Heap → Prop) : (exF (ycj y2b) Tryz.f32 [.agg (y1j c)] [] K) = (
    So (y2b c) (fun (y0 : yb) => (K (.agg [vi (IntKind.i64.wrap (1 + Int.tmod y0.Workers 4)), vi (IntKind.i64.wrap (1 + Int.tmod y0.CPUs 2)), vi (IntKind.i64.wrap (1 + Int.tmod y0.Pages 9)), vi (IntKind.i64.wrap (1 + Int.tmod y0.Stripes 4)), vi y0.Tries, vi y0.Wait, vi y0.Clock, vi (IntKind.i64.wrap (1 + Int.tmod y0.Private 3)), vi (Int.tmod y0.Cache 3), vi (Int.tmod y0.Bin 4), vi (IntKind.i64.wrap (1 + Int.tmod y0.Batch 3))]) []))) := by kernel_rfl
theorem yhn (y1e : Y36) (y0w : Y42) (y1s : Y12) (c : yb) (K : V → Heap → Prop) : (exF (ycy y1e y0w y1s) Tryz.f7 [.agg (y1j c)] [] K) = (
    So (y1e c) (fun (y0 : yb) => (So (y0w y0) (fun (y1 : ya × Int) => (So (y1s (yf.mk y0)) (fun (y2 : Int) => ((Req (decide (0 ≤ y2 ∧ y2 ≤ y2 ∧ y2 ≤ 1048576)) (K (.tup [.agg (yc y1.1), .agg (y1j y0), .row 0]) [.row 0 (List.replicate (Int.toNat y2) (0 : Int) : List Int) false])) ∧ ((Req (decide (0 ≤ y2 ∧ y2 ≤ y2 ∧ y2 ≤ 1048576)) (K (.tup [.agg (yc y1.1), .agg (y1j y0), .row 0]) [.row 0 (List.replicate (Int.toNat y2) (0 : Int) : List Int) false])) ∧ (Req (decide (0 ≤ y2 ∧ y2 ≤ y2 ∧ y2 ≤ 1048576)) (K (.tup [.agg (yc y1.1), .agg (y1j y0), .row 0]) [.row 0 (List.replicate (Int.toNat y2) (0 : Int) : List Int) false])))))))))) := by kernel_rfl
def y1e (c : yb) : Option yb :=
  ((y2b c).bind fun y0 => some (yb.mk (IntKind.i64.wrap (1 + Int.tmod y0.Workers 4)) (IntKind.i64.wrap (1 + Int.tmod y0.CPUs 2)) (IntKind.i64.wrap (1 + Int.tmod y0.Pages 9)) (IntKind.i64.wrap (1 + Int.tmod y0.Stripes 4)) y0.Tries y0.Wait y0.Clock (IntKind.i64.wrap (1 + Int.tmod y0.Private 3)) (Int.tmod y0.Cache 3) (Int.tmod y0.Bin 4) (IntKind.i64.wrap (1 + Int.tmod y0.Batch 3))))
def y1w (c : yb) : Option (ya × yf × (List Int)) :=
  ((y1e c).bind fun y0 => ((y0w y0).bind fun y1 => ((y1s (yf.mk y0)).bind fun y2 => (bif (decide (0 ≤ y2 ∧ y2 ≤ y2 ∧ y2 ≤ 1048576)) then some (y1.1, (yf.mk y0), (List.replicate (Int.toNat y2) (0 : Int))) else none))))
attribute [local irreducible] Loop ex exF contK roundK retK at_ bodyOf mkEnv
theorem ycs : SpecOK Tryz.prog elTT 32 (y64 y1e) := by
  refine spec_of_exF (cfg := (ycj y2b)) (yg rfl rfl rfl) (yd yfa yk) (fn := Tryz.f32) (by kernel_rfl) (by kernel_rfl) (by kernel_rfl) ?_
  intro args H K h
  change y68 y1e args H K at h
  unfold y68 at h
  repeat first | (obtain ⟨_, h⟩ := h) | replace h := Des.el h
  subst_vars
  refine Eq.mpr (yhk y2b _ K) ?_
  unfold y1e at h
  revert h
  exact bind_So fun y0 => fun h => h
theorem yfl : SpecOK Tryz.prog elTT 7 (ydd y1w) := by
  refine spec_of_exF (cfg := (ycy y1e y0w y1s)) (yg rfl rfl rfl) (yd ycs (yd ybu (yd ygj yk))) (fn := Tryz.f7) (by kernel_rfl) (by kernel_rfl) (by kernel_rfl) ?_
  intro args H K h
  change y7i y1w args H K at h
  unfold y7i at h
  repeat first | (obtain ⟨_, h⟩ := h) | replace h := Des.el h
  subst_vars
  refine Eq.mpr (yhn y1e y0w y1s _ K) ?_
  unfold y1w at h
  revert h
  exact bind_So fun y0 => bind_So fun y1 => bind_So fun y2 => alt_So (req_So (fun h => h)) (alt_So (req_So (fun h => h)) (req_So (fun h => h)))
end Go.Rx
end

section
namespace Go.Rx
open Go.Proofs
def I64 (x : Int) : Prop := -9223372036854775808 ≤ x ∧ x ≤ 9223372036854775807
theorem Small_eq (c : yb) : ∃ d, y1e c = some d ∧ RightC d := by
  obtain ⟨d, h1, h2⟩ := Some_eq c
  unfold y1e
  rw [h1, Option.bind_some]
  refine ⟨_, rfl, ?_⟩
  obtain ⟨a, b, d', e, f, g, h', i, j, k, l⟩ := h2
  have md : ∀ x m : Int, 0 ≤ x → 0 < m → m ≤ 10 → Int.tmod x m = x % m ∧ 0 ≤ x % m ∧ x % m < m := fun x m h1 h2 h3 => ⟨Int.tmod_eq_emod_of_nonneg h1, Int.emod_nonneg _ (by omega), Int.emod_lt_of_pos _ h2⟩
  have m1 := md d.Workers 4 (by omega) (by omega) (by omega)
  have m2 := md d.CPUs 2 (by omega) (by omega) (by omega)
  have m3 := md d.Pages 9 (by omega) (by omega) (by omega)
  have m4 := md d.Stripes 4 (by omega) (by omega) (by omega)
  have m5 := md d.Private 3 (by omega) (by omega) (by omega)
  have m6 := md d.Cache 3 (by omega) (by omega) (by omega)
  have m7 := md d.Bin 4 (by omega) (by omega) (by omega)
  have m8 := md d.Batch 3 (by omega) (by omega) (by omega)
  simp only [m1.1, m2.1, m3.1, m4.1, m5.1, m6.1, m7.1, m8.1]
  simp (disch := omega) only [wrap_id]
  exact ⟨by simp only; omega, by simp only; omega, by simp only; omega, by simp only; omega, f, g, h', by simp only; omega, by simp only; omega, by simp only; omega, by simp only; omega⟩
theorem Begin_eq (c : yb) : ∃ d, RightC d ∧ y1w c = some (layC d, ⟨d⟩, List.replicate (layC d).at_11.toNat 0) := by
  obtain ⟨d, h1, h2⟩ := Small_eq c
  have hb := (layC_ok h2).big; have h11 := (layC_ok h2).a11; have hp := (layC_ok h2).pages
  refine ⟨d, h2, ?_⟩
  unfold y1w
  rw [h1, Option.bind_some, Of_eq, if_pos h2, Option.bind_some, rWords_eq h2, Option.bind_some, decide_eq_true (by omega)]
  rfl
theorem rep_VOK {L : ya} (h : LayOK L) : VOK L (List.replicate L.at_11.toNat (0 : Int)).length (List.replicate L.at_11.toNat 0) := by
  have hb := h.big; have h11 := h.a11; have hp := h.pages
  exact ⟨h, rfl, by simp; omega⟩
theorem VOK.le {L : ya} {nw : Nat} {cur : List Int} (v : VOK L nw cur) : 128 ≤ nw := by
  have hb := v.lay.big; have h11 := v.lay.a11; have hp := v.lay.pages; have := v.all
  omega
end Go.Rx
end

section
namespace Go.Rx
def deg (G : Nat) : Code → Code
  | .seq a b => .seq (deg G a) (deg G b)
  | .cond c a b => .cond c (deg G a) (deg G b)
  | .goto _ => .exit G
  | c => c
def degOk (l B G : Nat) : Code → Bool
  | .seq a b => degOk l B G a && degOk l B G b
  | .cond _ a b => degOk l B G a && degOk l B G b
  | .goto l' => Nat.beq l' l
  | .exit i => !(Nat.beq i G) && !(Nat.beq i B)
  | .skip => true
  | .label _ => true
  | .region _ _ _ => true
  | .ret => true
  | _ => false
def goLoop (B G : Nat) (rest : Code) : Code := .block G (.seq (deg G rest) (.exit B))
def goCode (B G : Nat) (c rest : Code) : Code := .block B (.seq (.block G (.seq (deg G c) (.exit B))) (.loop (goLoop B G rest)))
variable {cfg : Cfg} {cx : Cx} {ds : List Deferred} {ρ0 : List Value} {F0 : Nat → List Nat} {H0 : Heap} {w0 : World}
def QG (cfg : Cfg) (cx : Cx) (ds : List Deferred) (ρ0 : List Value) (F0 : Nat → List Nat) (H0 : Heap) (w0 : World) (l B G : Nat) (K : Ex → Env → Heap → Prop) : Exit → Act → World → Prop
  | .normal, a, w => ∃ ρ F env H, St0 cfg cx ds ρ0 F0 H0 w0 ρ F env H a w ∧ K .normal env H
  | .exit i, a, w => Nat.beq i G = false ∧ Nat.beq i B = false ∧ ∃ ρ F env H, St0 cfg cx ds ρ0 F0 H0 w0 ρ F env H a w ∧ K (.exit i) env H
  | .ret, a, w => ∃ ρ F env H, St0 cfg cx ds ρ0 F0 H0 w0 ρ F env H a w ∧ K .ret env H
  | .goto l', a, w => l' = l ∧ ∃ ρ F env H, St0 cfg cx ds ρ0 F0 H0 w0 ρ F env H a w ∧ K (.exit G) env H
  | _, _, _ => False
theorem exG_sound (ok : CfgOK cfg) (hsig : ∀ g s, cfg.sigs g = some s → SpecOK cfg.P cfg.elT g s) (hp : cx.pins ≤ ρ0.length) {l B G : Nat} : ∀ (c : Code), degOk l B G c = true → ∀ (K : Ex → Env → Heap → Prop) (env : Env) (H : Heap) (ρ : List Value) (F : Nat → List Nat) (a : Act) (w : World),
    ex cfg cx (deg G c) env H K → St0 cfg cx ds ρ0 F0 H0 w0 ρ F env H a w → c.wp cfg.P (QG cfg cx ds ρ0 F0 H0 w0 l B G K) a w := by
  intro c
  induction c with
  | skip => intro _ K env H ρ F a w h hs; exact wp_skip ⟨ρ, F, env, H, hs, h⟩
  | label l => intro _ K env H ρ F a w h hs; exact wp_label ⟨ρ, F, env, H, hs, h⟩
  | ret => intro _ K env H ρ F a w h hs; exact wp_ret ⟨ρ, F, env, H, hs, h⟩
  | exit id =>
    intro hd K env H ρ F a w h hs
    simp only [degOk, Bool.and_eq_true, Bool.not_eq_true'] at hd
    exact wp_exit ⟨hd.1, hd.2, ρ, F, env, H, hs, h⟩
  | goto l' =>
    intro hd K env H ρ F a w h hs
    exact wp_goto ⟨Nat.eq_of_beq_eq_true hd, ρ, F, env, H, hs, h⟩
  | region id ops draw =>
    intro _ K env H ρ F a w h hs
    have h' : ex cfg cx (.region id ops draw) env H (fun e => match e with | .normal => K .normal | _ => fun _ _ => False) := by
      cases draw with
      | false => exact h
      | true => exact h
    refine wp_mono (y40 ok hsig hp _ _ env H ρ F a w h' hs) (fun e a w hq => ?_)
    cases e with
    | normal => exact hq
    | exit i => obtain ⟨_, _, _, _, _, hf⟩ := hq; exact hf.elim
    | ret => obtain ⟨_, _, _, _, _, hf⟩ := hq; exact hf.elim
    | goto l => exact hq.elim
    | panic ch => exact hq.elim
    | outgrown => exact hq.elim
  | seq x y ihx ihy =>
    intro hd K env H ρ F a w h hs
    simp only [degOk, Bool.and_eq_true] at hd
    refine wp_seq (wp_mono (ihx hd.1 _ env H ρ F a w h hs) (fun e a w hq => ?_))
    cases e with
    | normal => obtain ⟨ρ', F', env', H', h1, h2⟩ := hq; exact ihy hd.2 K env' H' ρ' F' a w h2 h1
    | exit i => exact hq
    | ret => exact hq
    | goto l => exact hq
    | panic ch => exact hq
    | outgrown => exact hq
  | cond c x y ihx ihy =>
    intro hd K env H ρ F a w h hs
    simp only [degOk, Bool.and_eq_true] at hd
    have h : (match ev env c with
      | .ext (.bool t) => br t (ex cfg cx (deg G x) env H K) (ex cfg cx (deg G y) env H K)
      | _ => False) := h
    split at h
    · rename_i t ht
      have hc := REnv.ev hs.st.env c
      rw [ht] at hc
      have hc := den_ext hc
      refine wp_cond hc ?_
      rcases br_elim h with ⟨rfl, h⟩ | ⟨rfl, h⟩
      · exact ihx hd.1 K env H ρ F a w h hs
      · exact ihy hd.2 K env H ρ F a w h hs
    · exact h.elim
  | block id x ih => intro hd; cases hd
  | loop x ih => intro hd; cases hd
  | scope x ih => intro hd; cases hd
  | rangeFunc f ps x y _ _ => intro hd; cases hd
  | refuse why => intro hd; cases hd
theorem least_ex {p : Nat → Prop} : ∀ n, p n → ∃ m, p m ∧ ∀ k, p k → m ≤ k := by
  intro n
  induction n using Nat.strongRecOn with
  | _ n ih =>
    intro h
    by_cases hx : ∃ k, k < n ∧ p k
    · obtain ⟨k, hk, hp⟩ := hx
      exact ih k hk hp
    · exact ⟨n, h, fun k hk => Nat.le_of_not_lt fun hlt => hx ⟨k, hlt, hk⟩⟩
theorem least_ex' {p : Nat → Prop} (h : ∃ n, p n) : ∃ m, p m ∧ ∀ k, p k → m ≤ k := by
  obtain ⟨n, hn⟩ := h
  exact least_ex n hn
noncomputable def leastN (p : Nat → Prop) : Nat := open Classical in if h : ∃ n, p n then Classical.choose (least_ex' h) else 0
theorem leastN_at {p : Nat → Prop} (h : ∃ n, p n) : p (leastN p) := by
  unfold leastN; rw [dif_pos h]; exact (Classical.choose_spec (least_ex' h)).1
theorem leastN_le {p : Nat → Prop} {n : Nat} (h : p n) : leastN p ≤ n := by
  unfold leastN; rw [dif_pos ⟨n, h⟩]; exact (Classical.choose_spec (least_ex' ⟨n, h⟩)).2 n h
theorem scope_goto (ok : CfgOK cfg) (hsig : ∀ g s, cfg.sigs g = some s → SpecOK cfg.P cfg.elT g s) (hp : cx.pins ≤ ρ0.length) {l B G : Nat} {c rest : Code} (hf : findLabel c l = some rest)
    (hc : degOk l B G c = true) (hr : degOk l B G rest = true) (hBG : Nat.beq B G = false) (hB : cfg.keepB B = none) (hG : cfg.keepB G = none)
    (hu : cfg.unroll (firstRegion (goLoop B G rest)) = none) {K : Ex → Env → Heap → Prop} {env : Env} {H : Heap} {ρ : List Value} {F : Nat → List Nat} {a : Act} {w : World}
    (h : ex cfg cx (goCode B G c rest) env H K) (hs : St0 cfg cx ds ρ0 F0 H0 w0 ρ F env H a w) : (Code.scope c).wp cfg.P (QK cfg cx ds ρ0 F0 H0 w0 K) a w := by
  have hGB : Nat.beq G B = false := by
    cases hx : Nat.beq G B with
    | false => rfl
    | true => rw [Nat.eq_of_beq_eq_true hx] at hBG; simp at hBG
  have hBB : Nat.beq B B = true := by simp
  have hGG : Nat.beq G G = true := by simp
  let K1 := blockK cfg cx B K
  let Lp := fun n => loopM (goLoop B G rest) (ex cfg cx (goLoop B G rest)) (gcO cx.pins (cfg.keep (firstRegion (goLoop B G rest)))) K1 n
  have k1B : ∀ env H, K1 (.exit B) env H → K .normal env H := fun env H h => by
    simp only [K1, blockK, hBB, hB, gcO, cond_true] at h; exact h
  have k1i : ∀ i env H, Nat.beq i B = false → K1 (.exit i) env H → K (.exit i) env H := fun i env H hi h => by
    simp only [K1, blockK, hi, cond_false] at h; exact h
  let Pn := fun (a : Act) (w : World) (n : Nat) => ∃ ρ F env H, St0 cfg cx ds ρ0 F0 H0 w0 ρ F env H a w ∧ Lp n env H
  let J := fun (a : Act) (w : World) => ∃ n, Pn a w n
  have hle : ∀ a w n, Pn a w n → leastN (Pn a w) ≤ n := fun a w n h => leastN_le h
  have hat : ∀ a w, J a w → Pn a w (leastN (Pn a w)) := fun a w h => leastN_at h
  refine wp_scope_jumps l J (fun a w => leastN (Pn a w)) hf ?_ ?_
  · have h1 : ex cfg cx (deg G c) env H (fun e env H => match e with
        | .normal => blockK cfg cx G (fun e env H => match e with
          | .normal => ex cfg cx (.loop (goLoop B G rest)) env H K1
          | .exit i => K1 (.exit i) env H
          | .ret => K1 .ret env H) (.exit B) env H
        | .exit i => blockK cfg cx G (fun e env H => match e with
          | .normal => ex cfg cx (.loop (goLoop B G rest)) env H K1
          | .exit i => K1 (.exit i) env H
          | .ret => K1 .ret env H) (.exit i) env H
        | .ret => K1 .ret env H) := h
    refine wp_mono (exG_sound ok hsig hp c hc _ env H ρ F a w h1 hs) (fun e a w hq => ?_)
    cases e with
    | normal =>
      obtain ⟨ρ', F', env', H', s1, s2⟩ := hq
      simp only [blockK, hBG, cond_false] at s2
      exact ⟨ρ', F', env', H', s1, k1B _ _ s2⟩
    | exit i =>
      obtain ⟨i1, i2, ρ', F', env', H', s1, s2⟩ := hq
      simp only [blockK, i1, cond_false] at s2
      exact ⟨ρ', F', env', H', s1, k1i _ _ _ i2 s2⟩
    | ret =>
      obtain ⟨ρ', F', env', H', s1, s2⟩ := hq
      exact ⟨ρ', F', env', H', s1, s2⟩
    | goto l' =>
      obtain ⟨rfl, ρ', F', env', H', s1, s2⟩ := hq
      simp only [blockK, hGG, hG, gcO, cond_true] at s2
      have s3 : gcO cx.pins (cfg.keep (firstRegion (goLoop B G rest))) env' H' (fun env H => match cfg.unroll (firstRegion (goLoop B G rest)) with
        | some n => loopM (goLoop B G rest) (ex cfg cx (goLoop B G rest)) (gcO cx.pins (cfg.keep (firstRegion (goLoop B G rest)))) K1 n env H
        | none => LoopQ (goLoop B G rest) (ex cfg cx (goLoop B G rest)) (gcO cx.pins (cfg.keep (firstRegion (goLoop B G rest)))) env H K1) := s2
      obtain ⟨ρ2, F2, env2, H2, q1, q2⟩ := gcO_sound hp s3 s1
      rw [hu] at q1
      obtain ⟨n, q1⟩ := q1
      exact ⟨rfl, n, ρ2, F2, env2, H2, q2, q1⟩
    | panic ch => exact hq.elim
    | outgrown => exact hq.elim
  · intro a w hJ
    obtain ⟨ρ', F', env', H', s1, s2⟩ := hat a w hJ
    cases hn : leastN (Pn a w) with
    | zero => rw [hn] at s2; exact s2.elim
    | succ m =>
      rw [hn] at s2
      have h1 : ex cfg cx (deg G rest) env' H' (fun e env H => match e with
        | .normal => blockK cfg cx G (fun e env H => match e with
          | .normal => gcO cx.pins (cfg.keep (firstRegion (goLoop B G rest))) env H (Lp m)
          | .exit i => K1 (.exit i) env H
          | .ret => K1 .ret env H) (.exit B) env H
        | .exit i => blockK cfg cx G (fun e env H => match e with
          | .normal => gcO cx.pins (cfg.keep (firstRegion (goLoop B G rest))) env H (Lp m)
          | .exit i => K1 (.exit i) env H
          | .ret => K1 .ret env H) (.exit i) env H
        | .ret => K1 .ret env H) := s2
      refine wp_mono (exG_sound ok hsig hp rest hr _ env' H' ρ' F' a w h1 s1) (fun e a' w' hq => ?_)
      cases e with
      | normal =>
        obtain ⟨ρ', F', env', H', s1, s2⟩ := hq
        simp only [blockK, hBG, cond_false] at s2
        exact ⟨ρ', F', env', H', s1, k1B _ _ s2⟩
      | exit i =>
        obtain ⟨i1, i2, ρ', F', env', H', s1, s2⟩ := hq
        simp only [blockK, i1, cond_false] at s2
        exact ⟨ρ', F', env', H', s1, k1i _ _ _ i2 s2⟩
      | ret =>
        obtain ⟨ρ', F', env', H', s1, s2⟩ := hq
        exact ⟨ρ', F', env', H', s1, s2⟩
      | goto l' =>
        obtain ⟨rfl, ρ', F', env', H', s1, s2⟩ := hq
        simp only [blockK, hGG, hG, gcO, cond_true] at s2
        obtain ⟨ρ2, F2, env2, H2, q1, q2⟩ := gcO_sound hp (s2 : gcO cx.pins (cfg.keep (firstRegion (goLoop B G rest))) env' H' (Lp m)) s1
        have hP : Pn a' w' m := ⟨ρ2, F2, env2, H2, q2, q1⟩
        have := hle a' w' m hP
        exact ⟨rfl, ⟨m, hP⟩, by omega⟩
      | panic ch => exact hq.elim
      | outgrown => exact hq.elim
theorem spec_of_exG (ok : CfgOK cfg) (hsig : ∀ g s, cfg.sigs g = some s → SpecOK cfg.P cfg.elT g s) {g : FuncId} {fn : Func} {s : Spec} {l B G : Nat} {r0 c rest : Code} (hg : cfg.P.funcs[g]? = some fn) (hname : (fn.name == "runtime.NumGoroutine") = false)
    (hb : fn.body = some (.seq r0 (.scope c))) (hf : findLabel c l = some rest) (hc : degOk l B G c = true) (hr : degOk l B G rest = true) (hBG : Nat.beq B G = false) (hB : cfg.keepB B = none) (hG : cfg.keepB G = none)
    (hu : cfg.unroll (firstRegion (goLoop B G rest)) = none)
    (h : ∀ (args : List V) (H : Heap) (K : V → Heap → Prop), s.tr args H K → exF cfg { fn with body := some (.seq r0 (goCode B G c rest)) } args H K) : SpecOK cfg.P cfg.elT g s := by
  refine ⟨⟨fn, hg, hname, by rw [hb]; rfl⟩, fun args H K htr ρ F w vals hden hsat => ?_⟩
  have hex : ex cfg (cxOf fn args H) (.seq r0 (goCode B G c rest)) (argEnv args) H (retK cfg fn H.length K) := h args H K htr
  refine calls_of_wp hg hb ?_
  have hlen := denL_len hden
  have hst : St cfg (cxOf fn args H).nt [] ρ F (argEnv args) H { tmps := vals.toArray ++ Array.replicate (fn.ntmps - vals.toArray.size) undef, defers := [] } w :=
    ⟨argEnv_rel hden _, by simp [cxOf, hlen], rfl, hsat⟩
  have hs0 : St0 cfg (cxOf fn args H) [] ρ F H w ρ F (argEnv args) H { tmps := vals.toArray ++ Array.replicate (fn.ntmps - vals.toArray.size) undef, defers := [] } w :=
    ⟨hst, Fr.refl, fun _ _ => rfl⟩
  have hp : (cxOf fn args H).pins ≤ ρ.length := by rw [hsat.len]; exact Nat.le_refl _
  have hwp : (Code.seq r0 (.scope c)).wp cfg.P (QK cfg (cxOf fn args H) [] ρ F H w (retK cfg fn H.length K)) { tmps := vals.toArray ++ Array.replicate (fn.ntmps - vals.toArray.size) undef, defers := [] } w := by
    refine wp_seq (wp_mono (y40 ok hsig hp r0 _ (argEnv args) H ρ F _ w hex hs0) (fun e a w hq => ?_))
    cases e with
    | normal => obtain ⟨ρ', F', env', H', h1, h2⟩ := hq; exact scope_goto ok hsig hp hf hc hr hBG hB hG hu h2 h1
    | exit i => exact hq
    | ret => exact hq
    | goto l => exact hq
    | panic ch => exact hq
    | outgrown => exact hq
  refine wp_mono hwp (fun e a' w' hq => ?_)
  have fin : ∀ (e : Ex) (ρ1 : List Value) (F1 : Nat → List Nat) (env1 : Env) (H1 : Heap), St0 cfg (cxOf fn args H) [] ρ F H w ρ1 F1 env1 H1 a' w' → retK cfg fn H.length K e env1 H1 →
      a'.defers = [] ∧ ∃ v, (results fn a'.tmps).run cfg.P w' = .ok v w' ∧ ∃ v' x ρ' F' H', Ending.returned v = .returned x ∧ K v' H' ∧ Rel ρ' v' x ∧ Le ρ ρ' ∧ Sat cfg.elT ρ' F' H' w' ∧ Fr H F w H' F' w' :=
    fun e ρ1 F1 env1 H1 hs1 hr => ⟨hs1.st.defers, ret_sound hsat hs1 hr⟩
  cases e with
  | normal => obtain ⟨ρ1, F1, env1, H1, h1, h2⟩ := hq; exact fin _ ρ1 F1 env1 H1 h1 h2
  | ret => obtain ⟨ρ1, F1, env1, H1, h1, h2⟩ := hq; exact fin _ ρ1 F1 env1 H1 h1 h2
  | exit i => obtain ⟨ρ1, F1, env1, H1, h1, h2⟩ := hq; exact h2.elim
  | goto l => exact hq.elim
  | panic ch => exact hq.elim
  | outgrown => exact hq.elim
end Go.Rx
end
