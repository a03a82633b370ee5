/- What the row's text of this claim stands on, part 4: the symbolic executor, and contracts of the program's functions. No condition. -/
import Derived.Test.YtpgapdmmcanffaaR08pC
section
/- Views: pairs, ask. -/
namespace Go.Rx
open Go.Proofs

def prOf (e : List Int) : Pr := ⟨e.getD 0 0, e.getD 1 0⟩
def pair1S : Spec := ⟨fun args H K => match args with
  | [.ext (.int .i64 a), .ext (.int .i64 x), .ptr 0 0] => match H with
    | [.cells U [.ext (.slice none 0 0)]] => K (vb true) [.cells U [.row 1], .row 2 [⟨a, x⟩] false]
    | [.cells U [.row 1], .row 2 l false] => Req (decide (l.length + 1 ≤ 1048576)) (K (vb true) [.cells U [.row 2], .dead, .row 2 (l ++ [⟨a, x⟩]) false])
    | _ => False
  | _ => False, false⟩
def eachS : Spec := ⟨fun args H K => match args, H with
  | [.ptr 0 0, .fn 110 [.ptr 1 0]], [.cells T [.row 2], .cells U [.ext (.slice none 0 0)], .row 5 its true] => Req (Nat.ble its.length 1048576)
    (br (Nat.beq its.length 0) (K (.tup []) [.cells T [.row 2], .cells U [.ext (.slice none 0 0)], .row 5 its true]) (K (.tup []) [.cells T [.row 2], .cells U [.row 3], .row 5 its true, .row 2 (its.map prOf) false]))
  | _, _ => False, false⟩
def pairsS : Spec := ⟨fun args H K => match args, H with
  | [.ptr 0 0], [.cells T [.row 1], .row 5 its true] => Req (Nat.ble its.length 1048576) (K (.row 2) [.cells T [.row 1], .row 5 its true, .row 2 (its.map prOf) false])
  | _, _ => False, true⟩
def askS : Spec := ⟨fun args H K => match args, H with
  | [.ptr 0 0, .ext (.int .i64 a)], [.cells T [.row 1, .mp 2, .row 3], .row 0 ws true, .map m n, .row 2 nd false] => Req (inR a ws.length)
    (br ((m a).getD 0 == 0)
      (Req (decide (nd.length + 1 ≤ 1048576)) (K (.tup [vi (List.getD ws (Int.toNat (offs a 0)) 0), vb true]) [.cells T [.row 1, .mp 2, .row 4], .row 0 ws true, .map (mapSet m a (IntKind.i64.wrap ((m a).getD 0 + 1))) (n + 1), .dead, .row 2 (nd ++ [⟨a, List.getD ws (Int.toNat (offs a 0)) 0⟩]) false]))
      (K (.tup [vi (List.getD ws (Int.toNat (offs a 0)) 0), vb true]) [.cells T [.row 1, .mp 2, .row 3], .row 0 ws true, .map m n, .row 2 nd false]))
  | _, _ => False, false⟩
noncomputable def cfg110 : Cfg := { cfgB with sigs := sigGet }
def sigEach : FuncId → Option Spec := fun f => match f with
  | 110 => some pair1S
  | 113 => some lenS
  | _ => none
noncomputable def cfg109 : Cfg := { cfgB with
  sigs := sigEach
  keep := fun r => match r with | 1 => some [(0, none), (1, none), (6, none), (7, none)] | _ => none
  keepB := fun r => match r with | 0 => some [] | _ => none
  plan := fun r => match r with | 3 => some (List.range 19, 2) | _ => none }
def sigPairs : FuncId → Option Spec := fun f => match f with
  | 109 => some eachS
  | _ => none
noncomputable def cfg105 : Cfg := { cfgB with sigs := sigPairs }
noncomputable def cfg97 : Cfg := { cfgB with sigs := sigPairs }
end Go.Rx
end

section
/- Normal forms of the program's code (by a program of this session's; the kernel checks each). -/
namespace Go.Rx
open Go.Proofs
set_option maxRecDepth 100000
theorem nf110a (a x : Int) (U : TypeId) (K : V → Heap → Prop) : (exF cfg110 Try.f110 [vi a, vi x, .ptr 0 0] [.cells U [.ext (.slice none 0 0)]] K) = (
    K (vb (Bool.true)) [.cells U [.row 1], .row 2 ([Go.Rx.Pr.mk a x] : List (Go.Rx.Pr)) Bool.false]) := by
  kernel_rfl

theorem nf110b (a x : Int) (U : TypeId) (l : List Pr) (K : V → Heap → Prop) : (exF cfg110 Try.f110 [vi a, vi x, .ptr 0 0] [.cells U [.row 1], .row 2 l false] K) = (
    Req (Decidable.decide (List.length l + 1 ≤ 1048576))
      (
      K (vb (Bool.true)) [.cells U [.row 2], .dead, .row 2 (l ++ [Go.Rx.Pr.mk a x] : List (Go.Rx.Pr)) Bool.false])) := by
  kernel_rfl

theorem nf109 (its : List (List Int)) (T U : TypeId) (K : V → Heap → Prop) : (exF cfg109 Try.f109 [.ptr 0 0, .fn 110 [.ptr 1 0]] [.cells T [.row 2], .cells U [.ext (.slice none 0 0)], .row 5 its true] K) = (
    Loop cfg109 (⟨30, 3⟩ : Cx) (at_ (bodyOf Try.f109) [1, 0, 0])  (mkEnv [(0, .ptr 0 0), (1, .fn 110 [.ptr 1 0]), (6, vi ((↑(List.length its) : Int))), (7, vi (0))]) [.cells T [.row 2], .cells U [.ext (Go.Value.slice Option.none 0 0)], .row 5 (its : List (List Int)) Bool.true] (contK cfg109 (⟨30, 3⟩ : Cx) (bodyOf Try.f109) [1, 0] (retK cfg109 Try.f109 3 K))) := by
  kernel_rfl

theorem nf109a (its : List (List Int)) (T U : TypeId) (n i : Int) (K : V → Heap → Prop) (J : Env → Heap → Prop) : (ex cfg109 (⟨30, 3⟩ : Cx) (at_ (bodyOf Try.f109) [1, 0, 0]) (mkEnv [(0, .ptr 0 0), (1, .fn 110 [.ptr 1 0]), (6, vi n), (7, vi i)]) [.cells T [.row 2], .cells U [.ext (.slice none 0 0)], .row 5 its true] (roundK cfg109 (⟨30, 3⟩ : Cx) (at_ (bodyOf Try.f109) [1, 0, 0]) (contK cfg109 (⟨30, 3⟩ : Cx) (bodyOf Try.f109) [1, 0] (retK cfg109 Try.f109 3 K)) J)) = (
    br (Decidable.decide (i < n))
      (
      Req (Go.Rx.inR i (List.length its))
        (
        Req (Go.Rx.inR (Go.Rx.offs i 0) (List.length its))
          (
          Req (Go.Rx.inR i (List.length its))
            (
            Req (Go.Rx.inR (Go.Rx.offs i 0) (List.length its))
              (
              J (mkEnv [(0, .ptr 0 0), (1, .fn 110 [.ptr 1 0]), (6, vi (n)), (7, vi (Go.IntKind.wrap Go.IntKind.i64 (i + 1)))]) [.cells T [.row 2], .cells U [.row 3], .row 5 (its : List (List Int)) Bool.true, .row 2 ([Go.Rx.Pr.mk (List.getD (List.getD its (Int.toNat (Go.Rx.offs i (0 : Nat))) (List.replicate (2 : Nat) (0 : Int))) (0 : Nat) (0 : Int)) (List.getD (List.getD its (Int.toNat (Go.Rx.offs i (0 : Nat))) (List.replicate (2 : Nat) (0 : Int))) (1 : Nat) (0 : Int))] : List (Go.Rx.Pr)) Bool.false])))))
      (
      K (.tup []) [.cells T [.row 2], .cells U [.ext (Go.Value.slice Option.none 0 0)], .row 5 (its : List (List Int)) Bool.true])) := by
  kernel_rfl

theorem nf109b (its : List (List Int)) (T U : TypeId) (n i : Int) (l : List Pr) (K : V → Heap → Prop) (J : Env → Heap → Prop) : (ex cfg109 (⟨30, 3⟩ : Cx) (at_ (bodyOf Try.f109) [1, 0, 0]) (mkEnv [(0, .ptr 0 0), (1, .fn 110 [.ptr 1 0]), (6, vi n), (7, vi i)]) [.cells T [.row 2], .cells U [.row 3], .row 5 its true, .row 2 l false] (roundK cfg109 (⟨30, 3⟩ : Cx) (at_ (bodyOf Try.f109) [1, 0, 0]) (contK cfg109 (⟨30, 3⟩ : Cx) (bodyOf Try.f109) [1, 0] (retK cfg109 Try.f109 3 K)) J)) = (
    br (Decidable.decide (i < n))
      (
      Req (Go.Rx.inR i (List.length its))
        (
        Req (Go.Rx.inR (Go.Rx.offs i 0) (List.length its))
          (
          Req (Go.Rx.inR i (List.length its))
            (
            Req (Go.Rx.inR (Go.Rx.offs i 0) (List.length its))
              (
              Req (Decidable.decide (List.length l + 1 ≤ 1048576))
                (
                J (mkEnv [(0, .ptr 0 0), (1, .fn 110 [.ptr 1 0]), (6, vi (n)), (7, vi (Go.IntKind.wrap Go.IntKind.i64 (i + 1)))]) [.cells T [.row 2], .cells U [.row 3], .row 5 (its : List (List Int)) Bool.true, .row 2 (l ++ [Go.Rx.Pr.mk (List.getD (List.getD its (Int.toNat (Go.Rx.offs i (0 : Nat))) (List.replicate (2 : Nat) (0 : Int))) (0 : Nat) (0 : Int)) (List.getD (List.getD its (Int.toNat (Go.Rx.offs i (0 : Nat))) (List.replicate (2 : Nat) (0 : Int))) (1 : Nat) (0 : Int))] : List (Go.Rx.Pr)) Bool.false]))))))
      (
      K (.tup []) [.cells T [.row 2], .cells U [.row 3], .row 5 (its : List (List Int)) Bool.true, .row 2 (l : List (Go.Rx.Pr)) Bool.false])) := by
  kernel_rfl

theorem nf105 (its : List (List Int)) (T : TypeId) (K : V → Heap → Prop) : (exF cfg105 Try.f105 [.ptr 0 0] [.cells T [.row 1], .row 5 its true] K) = (
    Req (Nat.ble (List.length its) 1048576)
      (
      br (Nat.beq (List.length its) 0)
        (
        K (.row 2) [.cells T [.row 1], .row 5 (its : List (List Int)) Bool.true, .row 2 ([] : List (Go.Rx.Pr)) Bool.false])
        (
        K (.row 2) [.cells T [.row 1], .row 5 (its : List (List Int)) Bool.true, .row 2 (List.map Go.Rx.prOf its : List (Go.Rx.Pr)) Bool.false]))) := by
  kernel_rfl

theorem nf97 (ws : List Int) (m : Int → Option Int) (n : Nat) (nd : List Pr) (a : Int) (T : TypeId) (K : V → Heap → Prop) : (exF cfg97 Try.f97 [.ptr 0 0, vi a] [.cells T [.row 1, .mp 2, .row 3], .row 0 ws true, .map m n, .row 2 nd false] K) = (
    br (Decidable.decide (a ≥ (↑(List.length ws) : Int)))
      (
      K (.tup [vi (0), vb (Bool.false)]) [.cells T [.row 1, .mp 2, .row 3], .row 0 (ws : List (Int)) Bool.true, .map (m) (n), .row 2 (nd : List (Go.Rx.Pr)) Bool.false])
      (
      Req (Go.Rx.inR a (List.length ws))
        (
        Req (Go.Rx.inR (Go.Rx.offs a 0) (List.length ws))
          (
          br (Option.getD (m a) 0 == 0)
            (
            Req (Decidable.decide (List.length nd + 1 ≤ 1048576))
              (
              K (.tup [vi (List.getD ws (Int.toNat (Go.Rx.offs a 0)) 0), vb (Bool.true)]) [.cells T [.row 1, .mp 2, .row 4], .row 0 (ws : List (Int)) Bool.true, .map (Go.Rx.mapSet m a (Go.IntKind.wrap Go.IntKind.i64 (Option.getD (m a) 0 + 1))) (n + 1), .dead, .row 2 (nd ++ [Go.Rx.Pr.mk a (List.getD ws (Int.toNat (Go.Rx.offs a 0)) 0)] : List (Go.Rx.Pr)) Bool.false]))
            (
            K (.tup [vi (List.getD ws (Int.toNat (Go.Rx.offs a 0)) 0), vb (Bool.true)]) [.cells T [.row 1, .mp 2, .row 3], .row 0 (ws : List (Int)) Bool.true, .map (m) (n), .row 2 (nd : List (Go.Rx.Pr)) Bool.false]))))) := by
  kernel_rfl

end Go.Rx
end

section
/- Views: pairs, ask. -/
namespace Go.Rx
open Go.Proofs
attribute [local irreducible] Loop ex exF contK roundK retK at_ bodyOf mkEnv mkA

theorem pair1_ok : SpecOK Try.prog elTT 110 pair1S := by
  refine spec_of_exF (cfg := cfg110) (cfg_ok rfl rfl rfl) (sigGet0_ok place_ok rfl) (fn := Try.f110) (by kernel_rfl) (by kernel_rfl) (by kernel_rfl) ?_
  intro args H K h
  unfold pair1S at h
  simp only at h
  split at h
  · rename_i a x
    split at h
    · rename_i U
      exact Eq.mpr (nf110a a x U K) h
    · rename_i U l
      exact Eq.mpr (nf110b a x U l K) h
    · exact h.elim
  · exact h.elim

theorem sigEach_ok : ∀ g s, sigEach g = some s → SpecOK Try.prog elTT g s := by
  intro g s hg
  unfold sigEach at hg
  split at hg
  · injection hg with hg; subst hg; exact pair1_ok
  · injection hg with hg; subst hg; exact len_ok
  · cases hg

theorem eachS_elim {args : List V} {H : Heap} {K : V → Heap → Prop} (h : eachS.tr args H K) : ∃ (its : List (List Int)) (T U : TypeId), args = [.ptr 0 0, .fn 110 [.ptr 1 0]] ∧ H = [.cells T [.row 2], .cells U [.ext (.slice none 0 0)], .row 5 its true] ∧ its.length ≤ 1048576 ∧
    br (Nat.beq its.length 0) (K (.tup []) [.cells T [.row 2], .cells U [.ext (.slice none 0 0)], .row 5 its true]) (K (.tup []) [.cells T [.row 2], .cells U [.row 3], .row 5 its true, .row 2 (its.map prOf) false]) := by
  unfold eachS at h
  simp only at h
  split at h
  · rename_i T U its
    have hr := Req_elim h
    exact ⟨its, T, U, rfl, rfl, Nat.le_of_ble_eq_true hr.1, hr.2⟩
  · exact h.elim

theorem map_take_succ {its : List (List Int)} {i : Nat} (h : i < its.length) : (its.take (i + 1)).map prOf = (its.take i).map prOf ++ [⟨(its.getD i (List.replicate 2 0)).getD 0 0, (its.getD i (List.replicate 2 0)).getD 1 0⟩] := by
  rw [List.take_succ_eq_append_getElem h, List.map_append]
  simp [prOf, List.getD, List.getElem?_eq_getElem h]

def eachR (its : List (List Int)) (T U : TypeId) (l : List Pr) : Heap := [.cells T [.row 2], .cells U [.row 3], .row 5 its true, .row 2 l false]
def eachH (its : List (List Int)) (T U : TypeId) (i : Nat) : Heap := match i with
  | 0 => [.cells T [.row 2], .cells U [.ext (.slice none 0 0)], .row 5 its true]
  | i + 1 => [.cells T [.row 2], .cells U [.row 3], .row 5 its true, .row 2 ((its.take (i + 1)).map prOf) false]

theorem each_ok : SpecOK Try.prog elTT 109 eachS := by
  refine spec_of_exF (cfg := cfg109) (cfg_ok rfl rfl rfl) sigEach_ok (fn := Try.f109) (by kernel_rfl) (by kernel_rfl) (by kernel_rfl) ?_
  intro args H K h
  obtain ⟨its, T, U, rfl, rfl, hl, hk⟩ := eachS_elim h
  refine Eq.mpr (nf109 its T U K) ?_
  refine loop_ind (σ := Nat) (fun i => mkEnv [(0, .ptr 0 0), (1, .fn 110 [.ptr 1 0]), (6, vi (its.length : Int)), (7, vi i)]) (fun i => eachH its T U i) (fun i => i ≤ its.length) (fun i => its.length - i) ?_ 0 (Nat.zero_le _)
  intro i hi J hJ
  match i with
  | 0 =>
    refine Eq.mpr (nf109a its T U its.length (0 : Nat) K J) (br_intro (fun h1 => ?_) (fun h1 => ?_))
    · have h1 : 0 < its.length := by simpa using h1
      have hn := hJ 1 h1 (by omega)
      simp only [offs_nat, inR_nat h1, Req_true, Int.toNat_natCast, wrap_succ (show 0 ≤ 4611686018427387904 by omega)]
      have e : eachH its T U 1 = eachR its T U [⟨(its.getD 0 (List.replicate 2 0)).getD 0 0, (its.getD 0 (List.replicate 2 0)).getD 1 0⟩] := congrArg (eachR its T U) (map_take_succ h1)
      rw [e] at hn
      exact hn
    · have h1 : its.length = 0 := by simpa using h1
      rw [h1] at hk
      exact hk
  | i + 1 =>
    refine Eq.mpr (nf109b its T U its.length ((i + 1 : Nat) : Int) ((its.take (i + 1)).map prOf) K J) (br_intro (fun h1 => ?_) (fun h1 => ?_))
    · have h1 : i + 1 < its.length := by simp at h1; omega
      have hn := hJ (i + 1 + 1) h1 (by omega)
      simp only [offs_nat, inR_nat h1, Req_true, Int.toNat_natCast, wrap_succ (show i + 1 ≤ 4611686018427387904 by omega)]
      have e : eachH its T U (i + 1 + 1) = eachR its T U ((its.take (i + 1)).map prOf ++ [⟨(its.getD (i + 1) (List.replicate 2 0)).getD 0 0, (its.getD (i + 1) (List.replicate 2 0)).getD 1 0⟩]) := congrArg (eachR its T U) (map_take_succ h1)
      rw [e] at hn
      refine Req_intro (decide_eq_true ?_) hn
      simp; omega
    · have h1 : i + 1 = its.length := by simp at h1; omega
      have h0 : Nat.beq its.length 0 = false := by rw [← h1]; rfl
      rw [h0] at hk
      have : its.take (i + 1) = its := by rw [h1]; exact List.take_length
      rw [this]
      exact hk

theorem sigPairs_ok : ∀ g s, sigPairs g = some s → SpecOK Try.prog elTT g s := by
  intro g s hg
  unfold sigPairs at hg
  split at hg
  · injection hg with hg; subst hg; exact each_ok
  · cases hg

theorem pairs_ok : SpecOK Try.prog elTT 105 pairsS := by
  refine spec_of_exF (cfg := cfg105) (cfg_ok rfl rfl rfl) sigPairs_ok (fn := Try.f105) (by kernel_rfl) (by kernel_rfl) (by kernel_rfl) ?_
  intro args H K h
  unfold pairsS at h
  simp only at h
  split at h
  · rename_i T its
    have hr := Req_elim h
    refine Eq.mpr (nf105 its T K) (Req_intro hr.1 (br_intro (fun h1 => ?_) (fun _ => hr.2)))
    have h1 : List.length its = 0 := Nat.eq_of_beq_eq_true h1
    have h2 : its = [] := List.eq_nil_of_length_eq_zero h1
    subst h2
    exact hr.2
  · exact h.elim

theorem askS_elim {args : List V} {H : Heap} {K : V → Heap → Prop} (h : askS.tr args H K) : ∃ (ws : List Int) (m : Int → Option Int) (n : Nat) (nd : List Pr) (a : Int) (T : TypeId), args = [.ptr 0 0, vi a] ∧ H = [.cells T [.row 1, .mp 2, .row 3], .row 0 ws true, .map m n, .row 2 nd false] ∧ inR a ws.length = true ∧
    br ((m a).getD 0 == 0)
      (Req (decide (nd.length + 1 ≤ 1048576)) (K (.tup [vi (List.getD ws (Int.toNat (offs a 0)) 0), vb true]) [.cells T [.row 1, .mp 2, .row 4], .row 0 ws true, .map (mapSet m a (IntKind.i64.wrap ((m a).getD 0 + 1))) (n + 1), .dead, .row 2 (nd ++ [⟨a, List.getD ws (Int.toNat (offs a 0)) 0⟩]) false]))
      (K (.tup [vi (List.getD ws (Int.toNat (offs a 0)) 0), vb true]) [.cells T [.row 1, .mp 2, .row 3], .row 0 ws true, .map m n, .row 2 nd false]) := by
  unfold askS at h
  simp only at h
  split at h
  · rename_i a T ws m n nd
    have hr := Req_elim h
    exact ⟨ws, m, n, nd, a, T, rfl, rfl, hr.1, hr.2⟩
  · exact h.elim

theorem ask_ok : SpecOK Try.prog elTT 97 askS := by
  refine spec_of_exF (cfg := cfg97) (cfg_ok rfl rfl rfl) sigPairs_ok (fn := Try.f97) (by kernel_rfl) (by kernel_rfl) (by kernel_rfl) ?_
  intro args H K h
  obtain ⟨ws, m, n, nd, a, T, rfl, rfl, h1, h2⟩ := askS_elim h
  have h3 := h1
  unfold inR at h3
  simp at h3
  refine Eq.mpr (nf97 ws m n nd a T K) (br_false (decide_eq_false (by omega)) (Req_intro h1 (Req_intro ?_ h2)))
  have : offs a 0 = a := by
    have : a = ((a.toNat : Nat) : Int) := by omega
    rw [this]; rfl
  rw [this]; exact h1
end Go.Rx
end

section
/- Contracts of functions over a view. -/
namespace Go.Rx

def eqL (a b : List Int) : Bool := decide (a = b)
theorem eqL_eq {a b : List Int} (h : eqL a b = true) : a = b := of_decide_eq_true h
theorem eqL_self (a : List Int) : eqL a a = true := decide_eq_true rfl

/-- Where the view stands among the arguments. -/
def outA : Nat → List V → Option (List V)
  | 0, args => match args with
    | .ptr 0 0 :: r => some r
    | _ => none
  | n + 1, args => match args with
    | v :: r => match outA n r with
      | some r => some (v :: r)
      | none => none
    | [] => none
def insA : Nat → List V → List V
  | 0, r => .ptr 0 0 :: r
  | n + 1, r => match r with
    | v :: r => v :: insA n r
    | [] => []

theorem outA_ins : ∀ {n : Nat} {args r : List V}, outA n args = some r → args = insA n r
  | 0, args, r, h => by
    unfold outA at h
    split at h
    · injection h with h; subst h; rfl
    · cases h
  | n + 1, args, r, h => by
    unfold outA at h
    split at h
    · rename_i v r'
      split at h
      · rename_i r2 hr
        injection h with h; subst h
        show v :: r' = v :: insA n r2
        rw [outA_ins hr]
      · cases h
    · cases h

/-- A function over a view's words: what must hold of them and of the numbers, what it tells, and what the words are then. -/
def vS (pos : Nat) (sh : List Nat) (pre : List Int → List Int → Prop) (f : List Int → List Int → V) (u : List Int → List Int → List Int) : Spec where
  tr := fun args H K => match H with
    | [.pk 0 [ws, cur] xs [.row 1], .row 0 l true] => match outA pos args with
      | some ags => match shA sh ags with
        | some ys => (eqL l ws && (Nat.ble xs.length 2 && Nat.beq cur.length ws.length)) = true ∧ pre cur ys ∧ K (f cur ys) [.pk 0 [ws, u cur ys] xs [.row 1], .row 0 l true]
        | none => False
      | none => False
    | _ => False

theorem vS_ok {cfg : Cfg} (ok : CfgOK cfg) (hsig : ∀ g s, cfg.sigs g = some s → SpecOK cfg.P cfg.elT g s) {g : FuncId} {fn : Func} {pos : Nat} {sh : List Nat} {pre : List Int → List Int → Prop} {f : List Int → List Int → V} {u : List Int → List Int → List Int}
    (hg : cfg.P.funcs[g]? = some fn) (hname : (fn.name == "runtime.NumGoroutine") = false) (hb : fn.body.isNone = false)
    (h : ∀ (ws cur ys : List Int) (xs : List Value) (K : V → Heap → Prop), xs.length ≤ 2 → cur.length = ws.length → pre cur ys → K (f cur ys) [.pk 0 [ws, u cur ys] xs [.row 1], .row 0 ws true] →
      exF cfg fn (insA pos (mkA sh 0 ys)) [.pk 0 [ws, cur] xs [.row 1], .row 0 ws true] K) : SpecOK cfg.P cfg.elT g (vS pos sh pre f u) := by
  refine spec_of_exF ok hsig hg hname hb ?_
  intro args H K ht
  unfold vS at ht
  simp only at ht
  split at ht
  · rename_i ws cur xs l
    split at ht
    · rename_i ags has
      split at ht
      · rename_i ys hys
        obtain ⟨h1, h2, h3⟩ := ht
        simp only [Bool.and_eq_true] at h1
        have e := eqL_eq h1.1
        subst e
        have e := shA_mk [] hys
        simp only [List.length_nil, List.nil_append] at e
        rw [outA_ins has, e]
        exact h _ _ _ _ K (Nat.le_of_ble_eq_true h1.2.1) (Nat.eq_of_beq_eq_true h1.2.2) h2 h3
      · exact ht.elim
    · exact ht.elim
  · exact ht.elim

theorem vS_req {ws cur : List Int} {xs : List Value} (h1 : xs.length ≤ 2) (h2 : cur.length = ws.length) : (eqL ws ws && (Nat.ble xs.length 2 && Nat.beq cur.length ws.length)) = true := by
  rw [eqL_self, Nat.ble_eq_true_of_le h1, h2]; simp
theorem rw_req {ws : List Int} {xs : List Value} {a : Int} (h1 : xs.length ≤ 2) (h2 : inR a ws.length = true) : (eqL ws ws && (Nat.ble xs.length 2 && inR a ws.length)) = true := by
  rw [eqL_self, Nat.ble_eq_true_of_le h1, h2]; rfl

/-- A callee that is run in place. -/
def inlS (cfg : Cfg) (fn : Func) : Spec where
  tr := fun args H K => exF cfg fn args H K

theorem inlS_ok {cfg : Cfg} (ok : CfgOK cfg) (hsig : ∀ g s, cfg.sigs g = some s → SpecOK cfg.P cfg.elT g s) {g : FuncId} {fn : Func}
    (hg : cfg.P.funcs[g]? = some fn) (hname : (fn.name == "runtime.NumGoroutine") = false) (hb : fn.body.isNone = false) : SpecOK cfg.P cfg.elT g (inlS cfg fn) :=
  spec_of_exF ok hsig hg hname hb fun _ _ _ h => h
end Go.Rx
end

section
/- Views: what a program reads and writes. -/
namespace Go.Rx
open Go.Proofs

def readS : Spec := ⟨fun args H K => match args, H with
  | [.ptr 0 0, .ext (.int .i64 a)], [.pk 0 [ws, cur] xs [.row 1], .row 0 l true] => Req (eqL l ws && (Nat.ble xs.length 2 && inR a ws.length)) (K (vi (cur.getD a.toNat 0)) [.pk 0 [ws, cur] xs [.row 1], .row 0 l true])
  | _, _ => False, false⟩
def writeS : Spec := ⟨fun args H K => match args, H with
  | [.ptr 0 0, .ext (.int .i64 a), .ext (.int .i64 x)], [.pk 0 [ws, cur] xs [.row 1], .row 0 l true] => Req (eqL l ws && (Nat.ble xs.length 2 && inR a ws.length)) (K (.tup []) [.pk 0 [ws, cur.set a.toNat x] xs [.row 1], .row 0 l true])
  | _, _ => False, false⟩
def sigRW : FuncId → Option Spec := fun f => match f with
  | 97 => some askS
  | 115 => some putS
  | 116 => some getS
  | _ => none
noncomputable def cfg114 : Cfg := { cfgB with sigs := sigRW }
end Go.Rx
end

section
/- Normal forms of the program's code (by a program of this session's; the kernel checks each). -/
namespace Go.Rx
open Go.Proofs
set_option maxRecDepth 100000
theorem nf114 (ws : List Int) (m : Int → Option Int) (n : Nat) (nd : List Pr) (its : List (List Int)) (a : Int) (K : V → Heap → Prop) : (exF cfg114 Try.f114 [.ptr 0 0, vi a] (viewHeap 97 (.row 0 ws true) m n nd its) K) = (
    br (Decidable.decide (a < 0))
      (
      K (vi (0)) [.cells 0 [.mth 97 (.ptr 1 0), .ptr 3 0, vb (Bool.true)], .cells 0 [.row 2, .mp 4, .row 5], .row 0 (ws : List (Int)) Bool.true, .cells 0 [.row 6], .map (m) (n), .row 2 (nd : List (Go.Rx.Pr)) Bool.false, .row 5 (its : List (List Int)) Bool.false])
      (
      Req (Go.Rx.sortedI its && Nat.ble (List.length its) 1048577)
        (
        br (Go.Rx.hasI its a)
          (
          K (vi (Option.getD (Go.Rx.lookI its a) 0)) [.cells 0 [.mth 97 (.ptr 1 0), .ptr 3 0, vb (Bool.true)], .cells 0 [.row 2, .mp 4, .row 5], .row 0 (ws : List (Int)) Bool.true, .cells 0 [.row 6], .map (m) (n), .row 2 (nd : List (Go.Rx.Pr)) Bool.false, .row 5 (its : List (List Int)) Bool.false])
          (
          Req (Go.Rx.inR a (List.length ws))
            (
            br (Option.getD (m a) 0 == 0)
              (
              Req (Decidable.decide (List.length nd + 1 ≤ 1048576))
                (
                K (vi (List.getD ws (Int.toNat (Go.Rx.offs a 0)) 0)) [.cells 0 [.mth 97 (.ptr 1 0), .ptr 3 0, vb (Bool.true)], .cells 0 [.row 2, .mp 4, .row 7], .row 0 (ws : List (Int)) Bool.true, .cells 0 [.row 6], .map (Go.Rx.mapSet m a (Go.IntKind.wrap Go.IntKind.i64 (Option.getD (m a) 0 + 1))) (n + 1), .dead, .row 5 (its : List (List Int)) Bool.false, .row 2 (nd ++ [Go.Rx.Pr.mk a (List.getD ws (Int.toNat (Go.Rx.offs a 0)) 0)] : List (Go.Rx.Pr)) Bool.false]))
              (
              K (vi (List.getD ws (Int.toNat (Go.Rx.offs a 0)) 0)) [.cells 0 [.mth 97 (.ptr 1 0), .ptr 3 0, vb (Bool.true)], .cells 0 [.row 2, .mp 4, .row 5], .row 0 (ws : List (Int)) Bool.true, .cells 0 [.row 6], .map (m) (n), .row 2 (nd : List (Go.Rx.Pr)) Bool.false, .row 5 (its : List (List Int)) Bool.false])))))) := by
  kernel_rfl

theorem nf112 (ws : List Int) (m : Int → Option Int) (n : Nat) (nd : List Pr) (its : List (List Int)) (a : Int) (x : Int) (K : V → Heap → Prop) : (exF cfg114 Try.f112 [.ptr 0 0, vi a, vi x] (viewHeap 97 (.row 0 ws true) m n nd its) K) = (
    br (Decidable.decide (a < 0))
      (
      K (.tup []) [.cells 0 [.mth 97 (.ptr 1 0), .ptr 3 0, vb (Bool.true)], .cells 0 [.row 2, .mp 4, .row 5], .row 0 (ws : List (Int)) Bool.true, .cells 0 [.row 6], .map (m) (n), .row 2 (nd : List (Go.Rx.Pr)) Bool.false, .row 5 (its : List (List Int)) Bool.false])
      (
      Req (Go.Rx.sortedI its && Nat.ble (List.length (Go.Rx.putI its a x)) 1048576)
        (
        br (Go.Rx.hasI its a)
          (
          K (.tup []) [.cells 0 [.mth 97 (.ptr 1 0), .ptr 3 0, vb (Bool.true)], .cells 0 [.row 2, .mp 4, .row 5], .row 0 (ws : List (Int)) Bool.true, .cells 0 [.row 6], .map (m) (n), .row 2 (nd : List (Go.Rx.Pr)) Bool.false, .row 5 (Go.Rx.putI its a x : List (List Int)) Bool.false])
          (
          K (.tup []) [.cells 0 [.mth 97 (.ptr 1 0), .ptr 3 0, vb (Bool.true)], .cells 0 [.row 2, .mp 4, .row 5], .row 0 (ws : List (Int)) Bool.true, .cells 0 [.row 7], .map (m) (n), .row 2 (nd : List (Go.Rx.Pr)) Bool.false, .dead, .row 5 (Go.Rx.putI its a x : List (List Int)) Bool.false])))) := by
  kernel_rfl

end Go.Rx
end

section
/- Views: Read and Write, over the words as one. -/
namespace Go.Rx
open Go.Proofs
attribute [local irreducible] Loop ex exF contK roundK retK at_ bodyOf mkEnv mkA

theorem sorted_len {n : Int} : ∀ {its : List (List Int)} {lo : Int}, its.Pairwise (fun x y => keyOf x < keyOf y) → (∀ e ∈ its, lo ≤ keyOf e ∧ keyOf e < n) → (its.length : Int) ≤ max (n - lo) 0
  | [], _, _, _ => by simp; omega
  | e :: r, lo, h, hb => by
    rw [List.pairwise_cons] at h
    have h0 := hb e (by simp)
    have := sorted_len (n := n) (its := r) (lo := keyOf e + 1) h.2 (fun y hy => ⟨by have := h.1 y hy; omega, (hb y (by simp [hy])).2⟩)
    simp only [List.length_cons]
    omega

theorem nodup_len : ∀ {n : Nat} {l : List Nat}, l.Nodup → (∀ x ∈ l, x < n) → l.length ≤ n
  | 0, l, _, hb => by
    cases l with
    | nil => simp
    | cons x r => have := hb x (by simp); omega
  | n + 1, l, h, hb => by
    by_cases hn : n ∈ l
    · have h1 := h.erase n
      have h2 : ∀ x ∈ l.erase n, x < n := fun x hx => by
        have := (h.mem_erase_iff).1 hx
        have := hb x this.2
        omega
      have := nodup_len h1 h2
      rw [List.length_erase_of_mem hn] at this
      omega
    · have := nodup_len h (n := n) (fun x hx => by
        have := hb x hx
        have : x ≠ n := fun e => hn (e ▸ hx)
        omega)
      omega

theorem nd_len {ws : List Int} {nd : List Pr} (h1 : ∀ p ∈ nd, 0 ≤ p.Addr ∧ p.Addr < (ws.length : Int)) (h2 : nd.Pairwise (fun x y => x.Addr ≠ y.Addr)) : nd.length ≤ ws.length := by
  have : (nd.map fun p => p.Addr.toNat).length ≤ ws.length := by
    refine nodup_len ?_ (fun x hx => ?_)
    · refine List.pairwise_map.2 ?_
      refine List.Pairwise.imp_of_mem (fun {x y} hx hy hxy => ?_) h2
      have := h1 x hx
      have := h1 y hy
      omega
    · obtain ⟨p, hp, rfl⟩ := List.mem_map.1 hx
      have := h1 p hp
      omega
  simpa using this

theorem view_its {ws cur : List Int} {m : Int → Option Int} {nd : List Pr} {its : List (List Int)} (h : ViewOK ws cur m nd its) : its.length ≤ ws.length := by
  have := sorted_len (n := (ws.length : Int)) (lo := 0) h.sorted h.keys
  omega

theorem view_val {ws cur : List Int} {m : Int → Option Int} {nd : List Pr} {its : List (List Int)} (h : ViewOK ws cur m nd its) {a : Int} (ha : inR a ws.length = true) :
    cur.getD a.toNat 0 = (lookI its a).getD (ws.getD a.toNat 0) ∧ offs a 0 = a := by
  unfold inR at ha
  simp at ha
  have e : a = ((a.toNat : Nat) : Int) := by omega
  refine ⟨?_, by rw [e]; rfl⟩
  have := h.cur a.toNat (by omega)
  rw [this]
  conv => lhs; rw [← e]

theorem ViewOK.asks {ws cur : List Int} {m : Int → Option Int} {nd : List Pr} {its : List (List Int)} (h : ViewOK ws cur m nd its) {a : Int} (ha : inR a ws.length = true) (hm : ((m a).getD 0 == 0) = true) (x : Int) :
    ViewOK ws cur (mapSet m a (IntKind.i64.wrap ((m a).getD 0 + 1))) (nd ++ [⟨a, x⟩]) its ∧ nd.length + 1 ≤ 1048576 := by
  unfold inR at ha
  simp at ha
  have hm : (m a).getD 0 = 0 := by simpa using hm
  have hnot : ∀ p ∈ nd, p.Addr ≠ a := fun p hp e => by
    have := h.asked p hp
    rw [e] at this
    exact this hm
  have honce : (nd ++ [(⟨a, x⟩ : Pr)]).Pairwise (fun x y => x.Addr ≠ y.Addr) := by
    rw [List.pairwise_append]
    refine ⟨h.once, by simp, fun p hp q hq => ?_⟩
    simp at hq
    subst hq
    exact hnot p hp
  have htold : ∀ p ∈ nd ++ [(⟨a, x⟩ : Pr)], 0 ≤ p.Addr ∧ p.Addr < (ws.length : Int) := fun p hp => by
    rcases List.mem_append.1 hp with hp | hp
    · exact h.told p hp
    · simp at hp; subst hp; exact ⟨by simp only; omega, by simp only; omega⟩
  refine ⟨⟨h.small, h.len, h.sorted, h.keys, h.cur, fun p hp => ?_, htold, honce⟩, ?_⟩
  · unfold mapSet
    rcases List.mem_append.1 hp with hp | hp
    · rw [if_neg (hnot p hp)]; exact h.asked p hp
    · simp at hp; subst hp
      rw [if_pos rfl, hm]
      have : IntKind.i64.wrap (0 + 1) = 1 := wrap_id (by omega) (by omega)
      rw [this]
      simp
  · have := nd_len htold honce
    have := h.small
    simp at *
    omega

theorem ViewOK.puts {ws cur : List Int} {m : Int → Option Int} {nd : List Pr} {its : List (List Int)} (h : ViewOK ws cur m nd its) {a : Int} (ha : inR a ws.length = true) (x : Int) :
    ViewOK ws (cur.set a.toNat x) m nd (putI its a x) ∧ (putI its a x).length ≤ 1048576 := by
  unfold inR at ha
  simp at ha
  obtain ⟨h1, h2, h3⟩ := putI_sorted h.sorted a x
  have hv : ViewOK ws (cur.set a.toNat x) m nd (putI its a x) := by
    refine ⟨h.small, by simp [h.len], h1, fun e he => ?_, fun i hi => ?_, h.asked, h.told, h.once⟩
    · rcases h3 e he with h4 | h4
      · exact h.keys e h4
      · rw [h4]; omega
    · rw [h2]
      have hl := h.len
      by_cases e : (i : Int) = a
      · rw [if_pos e]
        have : a.toNat = i := by omega
        rw [this]
        simp [List.getD, List.getElem?_set, hi, hl]
      · rw [if_neg e]
        have : a.toNat ≠ i := by omega
        rw [List.getD, List.getElem?_set_ne this]
        exact h.cur i hi
  exact ⟨hv, by have := view_its hv; have := h.small; omega⟩

theorem sigRW_ok : ∀ g s, sigRW g = some s → SpecOK Try.prog elTT g s := by
  intro g s hg
  unfold sigRW at hg
  split at hg
  · injection hg with hg; subst hg; exact ask_ok
  · injection hg with hg; subst hg; exact put_ok
  · injection hg with hg; subst hg; exact get_ok
  · cases hg

theorem readS_elim {args : List V} {H : Heap} {K : V → Heap → Prop} (h : readS.tr args H K) : ∃ (a : Int) (ws cur : List Int) (xs : List Value), args = [.ptr 0 0, vi a] ∧ H = [.pk 0 [ws, cur] xs [.row 1], .row 0 ws true] ∧ xs.length ≤ 2 ∧ inR a ws.length = true ∧
    K (vi (cur.getD a.toNat 0)) [.pk 0 [ws, cur] xs [.row 1], .row 0 ws true] := by
  unfold readS at h
  simp only at h
  split at h
  · rename_i a ws cur xs l
    have hr := Req_elim h
    have h1 := hr.1
    simp only [Bool.and_eq_true] at h1
    have e : l = ws := eqL_eq h1.1
    subst e
    exact ⟨a, l, cur, xs, rfl, rfl, Nat.le_of_ble_eq_true h1.2.1, h1.2.2, hr.2⟩
  · exact h.elim

theorem writeS_elim {args : List V} {H : Heap} {K : V → Heap → Prop} (h : writeS.tr args H K) : ∃ (a x : Int) (ws cur : List Int) (xs : List Value), args = [.ptr 0 0, vi a, vi x] ∧ H = [.pk 0 [ws, cur] xs [.row 1], .row 0 ws true] ∧ xs.length ≤ 2 ∧ inR a ws.length = true ∧
    K (.tup []) [.pk 0 [ws, cur.set a.toNat x] xs [.row 1], .row 0 ws true] := by
  unfold writeS at h
  simp only at h
  split at h
  · rename_i a x ws cur xs l
    have hr := Req_elim h
    have h1 := hr.1
    simp only [Bool.and_eq_true] at h1
    have e : l = ws := eqL_eq h1.1
    subst e
    exact ⟨a, x, l, cur, xs, rfl, rfl, Nat.le_of_ble_eq_true h1.2.1, h1.2.2, hr.2⟩
  · exact h.elim

noncomputable def exS114 : Spec := ⟨fun args H K => exF cfg114 Try.f114 args H K, false⟩
noncomputable def exS112 : Spec := ⟨fun args H K => exF cfg114 Try.f112 args H K, false⟩
theorem exS114_ok : SpecOK Try.prog elTT 114 exS114 :=
  spec_of_exF (cfg := cfg114) (cfg_ok rfl rfl rfl) sigRW_ok (fn := Try.f114) (by kernel_rfl) (by kernel_rfl) (by kernel_rfl) fun _ _ _ h => h
theorem exS112_ok : SpecOK Try.prog elTT 112 exS112 :=
  spec_of_exF (cfg := cfg114) (cfg_ok rfl rfl rfl) sigRW_ok (fn := Try.f112) (by kernel_rfl) (by kernel_rfl) (by kernel_rfl) fun _ _ _ h => h

theorem absE : elTT.abs = absView 97 := rfl

/-- How a view's parts stand behind a step: 0 as they did, 1 with what is noted anew, 2 with what was written anew. -/
theorem ids0 : nodup [0, 1, 2, 3, 4, 5, 6] = true ∧ (∀ i, i < 3 → [0, 1, 2, 3, 4, 5, 6][i]? = some i) := ⟨rfl, fun i hi => by match i, hi with | 0, _ => rfl | 1, _ => rfl | 2, _ => rfl⟩
theorem ids1 : nodup [0, 1, 2, 3, 4, 7, 6] = true ∧ (∀ i, i < 3 → [0, 1, 2, 3, 4, 7, 6][i]? = some i) := ⟨rfl, fun i hi => by match i, hi with | 0, _ => rfl | 1, _ => rfl | 2, _ => rfl⟩
theorem ids2 : nodup [0, 1, 2, 3, 4, 5, 7] = true ∧ (∀ i, i < 3 → [0, 1, 2, 3, 4, 5, 7][i]? = some i) := ⟨rfl, fun i hi => by match i, hi with | 0, _ => rfl | 1, _ => rfl | 2, _ => rfl⟩

theorem abs_view {ws cur : List Int} {m : Int → Option Int} {nd : List Pr} {its : List (List Int)} (n : Nat) (h : ViewOK ws cur m nd its) : elTT.abs 0 [ws, cur] (viewHeap 97 .dead m n nd its) := ⟨m, n, nd, its, rfl, h⟩

theorem read_ok : SpecOK Try.prog elTT 114 readS := by
  refine spec_open (absView_ok absE) exS114_ok ?_
  intro args H K h
  obtain ⟨a, ws, cur, xs, rfl, rfl, hx, ha, hk⟩ := readS_elim h
  refine ⟨0, [ws, cur], xs, 0, ws, rfl, hx, rfl, fun Hc hc => ?_⟩
  obtain ⟨m, n, nd, its, rfl, hv⟩ : ∃ m n nd its, Hc = viewHeap 97 .dead m n nd its ∧ ViewOK ws cur m nd its := hc
  obtain ⟨hval, hoff⟩ := view_val hv ha
  have hlen := view_its hv
  have hsm := hv.small
  have ha2 := ha
  unfold inR at ha2
  simp at ha2
  refine Eq.mpr (nf114 ws m n nd its a _) (br_false (decide_eq_false (by omega)) (Req_intro (by simp only [sortedI, decide_eq_true hv.sorted, Bool.true_and]; exact Nat.ble_eq_true_of_le (by omega)) (br_intro (fun h1 => ?_) (fun h1 => Req_intro ha (br_intro (fun h2 => ?_) (fun h2 => ?_))))))
  · refine ⟨[ws, cur], viewHeap 97 .dead m n nd its, [0, 1, 2, 3, 4, 5, 6], rfl, abs_view n hv, ids0.1, ids0.2, rfl, ?_⟩
    unfold hasI at h1
    obtain ⟨v, hv'⟩ := Option.isSome_iff_exists.1 h1
    rw [hv'] at hval ⊢
    rw [hval] at hk
    exact hk
  · have hn : lookI its a = none := by unfold hasI at h1; simpa using h1
    rw [hn] at hval
    rw [hval] at hk
    obtain ⟨hv2, hnl⟩ := hv.asks ha h2 (List.getD ws (Int.toNat (offs a 0)) 0)
    refine Req_intro (decide_eq_true hnl) ⟨[ws, cur], viewHeap 97 .dead _ (n + 1) _ its, [0, 1, 2, 3, 4, 7, 6], rfl, abs_view (n + 1) hv2, ids1.1, ids1.2, rfl, ?_⟩
    rw [hoff]
    exact hk
  · have hn : lookI its a = none := by unfold hasI at h1; simpa using h1
    rw [hn] at hval
    rw [hval] at hk
    refine ⟨[ws, cur], viewHeap 97 .dead m n nd its, [0, 1, 2, 3, 4, 5, 6], rfl, abs_view n hv, ids0.1, ids0.2, rfl, ?_⟩
    rw [hoff]
    exact hk

theorem write_ok : SpecOK Try.prog elTT 112 writeS := by
  refine spec_open (absView_ok absE) exS112_ok ?_
  intro args H K h
  obtain ⟨a, x, ws, cur, xs, rfl, rfl, hx, ha, hk⟩ := writeS_elim h
  refine ⟨0, [ws, cur], xs, 0, ws, rfl, hx, rfl, fun Hc hc => ?_⟩
  obtain ⟨m, n, nd, its, rfl, hv⟩ : ∃ m n nd its, Hc = viewHeap 97 .dead m n nd its ∧ ViewOK ws cur m nd its := hc
  obtain ⟨hv2, hlen⟩ := hv.puts ha x
  have ha2 := ha
  unfold inR at ha2
  simp at ha2
  refine Eq.mpr (nf112 ws m n nd its a x _) (br_false (decide_eq_false (by omega)) (Req_intro (by simp only [sortedI, decide_eq_true hv.sorted, Bool.true_and]; exact Nat.ble_eq_true_of_le (by omega)) (br_intro (fun h1 => ?_) (fun h1 => ?_))))
  · exact ⟨[ws, cur.set a.toNat x], viewHeap 97 .dead m n nd (putI its a x), [0, 1, 2, 3, 4, 5, 6], rfl, abs_view n hv2, ids0.1, ids0.2, rfl, hk⟩
  · exact ⟨[ws, cur.set a.toNat x], viewHeap 97 .dead m n nd (putI its a x), [0, 1, 2, 3, 4, 5, 7], rfl, abs_view n hv2, ids2.1, ids2.2, rfl, hk⟩
end Go.Rx
end

section
/- Layer 8: which chunks of pages are mapped: the functions without views. -/
namespace Go.Rx
open Go.Proofs
def chainT : List Nat → PT → PT
  | [], t => t
  | i :: r, t => .op i (chainT r t)
def plan8 : Nat → Nat → Option (List Nat × Nat)
  | 62, 3 => some (List.range 11, 0)
  | 94, 1 => some (List.range 12, 0)
  | _, _ => none
noncomputable def sig8a : FuncId → Option Spec := fun f => match f with
  | 14 => some s14
  | 17 => some s17
  | 18 => some s18
  | 19 => some s19
  | 63 => some (inl cfgB Try.f63)
  | 84 => some (inl { cfgB with sigs := fun f => match f with | 19 => some s19 | _ => none } Try.f84)
  | 94 => some (inl { cfgB with sigs := (fun f => match f with | 18 => some s18 | _ => none), plan := plan8 94 } Try.f94)
  | _ => none
noncomputable def cfg8 (n : Nat) : Cfg := { cfgB with sigs := sig8a, plan := plan8 n }
end Go.Rx
end

section
/- Normal forms of the program's code (by a program of this session's; the kernel checks each). -/
namespace Go.Rx
open Go.Proofs
set_option maxRecDepth 100000
theorem nf63 (xs : List Int) (K : V → Heap → Prop) : (exF (cfg8 63) Try.f63 (mkA [0] 0 xs) [] K) = (
    br (Decidable.decide (List.getD xs 0 0 < 0))
      (
      K (vi (-1)) [])
      (
      K (vi (Go.IntKind.wrap Go.IntKind.i64 (Int.tdiv (List.getD xs 0 0) 4))) [])) := by
  kernel_rfl

theorem nf64 (xs : List Int) (K : V → Heap → Prop) : (exF (cfg8 64) Try.f64 (mkA [0] 0 xs) [] K) = (
    br (Decidable.decide (List.getD xs 0 0 < 0))
      (
      K (vi (-1)) [])
      (
      K (vi (Go.IntKind.wrap Go.IntKind.i64 (Int.tdiv (List.getD xs 0 0) 4))) [])) := by
  kernel_rfl

theorem nf84 (xs : List Int) (K : V → Heap → Prop) : (exF (cfg8 84) Try.f84 (mkA [11, 0] 0 xs) [] K) = (
    br (Decidable.decide (List.getD xs 11 0 ≥ 0))
      (
      ((
        True) ∧ (
        K (vb (Decidable.decide (List.getD xs 11 0 < Go.Rx.v19_0 [List.getD xs 0 0, List.getD xs 1 0, List.getD xs 2 0, List.getD xs 3 0, List.getD xs 4 0, List.getD xs 5 0, List.getD xs 6 0, List.getD xs 7 0, List.getD xs 8 0, List.getD xs 9 0, List.getD xs 10 0]))) [])))
      (
      K (vb (Bool.false)) [])) := by
  kernel_rfl

theorem nf62 (xs : List Int) (K : V → Heap → Prop) : (exF (cfg8 62) Try.f62 (mkA [11, 0] 0 xs) [] K) = (
    br (Decidable.decide (List.getD xs 11 0 ≥ 0))
      (
      ((
        True) ∧ (
        br (!Decidable.decide (List.getD xs 11 0 < Go.Rx.v19_0 [List.getD xs 0 0, List.getD xs 1 0, List.getD xs 2 0, List.getD xs 3 0, List.getD xs 4 0, List.getD xs 5 0, List.getD xs 6 0, List.getD xs 7 0, List.getD xs 8 0, List.getD xs 9 0, List.getD xs 10 0]))
          (
          K (.tup [vi (0), vi (0)]) [])
          (
          K (.tup [vi (Go.IntKind.wrap Go.IntKind.i64 (4 * List.getD xs 11 0)), vi (if Go.IntKind.wrap Go.IntKind.i64 (List.getD xs (2 : Nat) (0 : Int) - Go.IntKind.wrap Go.IntKind.i64 ((4 : Int) * List.getD xs (11 : Nat) (0 : Int))) < (4 : Int) then Go.IntKind.wrap Go.IntKind.i64 (List.getD xs (2 : Nat) (0 : Int) - Go.IntKind.wrap Go.IntKind.i64 ((4 : Int) * List.getD xs (11 : Nat) (0 : Int))) else (4 : Int))]) []))))
      (
      K (.tup [vi (0), vi (0)]) [])) := by
  kernel_rfl

theorem nf94 (xs : List Int) (K : V → Heap → Prop) : (exF (cfg8 94) Try.f94 (mkA [24] 0 xs) [] K) = (
    br (Decidable.decide (List.getD xs 23 0 ≥ 0))
      (
      ((
        ((
          (Int.NonNeg (List.getD xs 2 0 - 0))) ∧ (
          (Int.NonNeg (1099511627776 - List.getD xs 2 0))))) ∧ (
        K (vb (Decidable.decide (List.getD xs 23 0 < Go.Rx.v18_0 [List.getD xs 0 0, List.getD xs 1 0, List.getD xs 2 0, List.getD xs 3 0, List.getD xs 4 0, List.getD xs 5 0, List.getD xs 6 0, List.getD xs 7 0, List.getD xs 8 0, List.getD xs 9 0, List.getD xs 10 0, List.getD xs 11 0, List.getD xs 12 0, List.getD xs 13 0, List.getD xs 14 0, List.getD xs 15 0, List.getD xs 16 0, List.getD xs 17 0, List.getD xs 18 0, List.getD xs 19 0, List.getD xs 20 0, List.getD xs 21 0, List.getD xs 22 0]))) [])))
      (
      K (vb (Bool.false)) [])) := by
  kernel_rfl

theorem nf83 (xs : List Int) (K : V → Heap → Prop) : (exF (cfg8 83) Try.f83 (mkA [24] 0 xs) [] K) = (
    br (Decidable.decide (List.getD xs 23 0 ≥ 0))
      (
      ((
        ((
          (Int.NonNeg (List.getD xs 2 0 - 0))) ∧ (
          (Int.NonNeg (1099511627776 - List.getD xs 2 0))))) ∧ (
        br (!Decidable.decide (List.getD xs 23 0 < Go.Rx.v18_0 [List.getD xs 0 0, List.getD xs 1 0, List.getD xs 2 0, List.getD xs 3 0, List.getD xs 4 0, List.getD xs 5 0, List.getD xs 6 0, List.getD xs 7 0, List.getD xs 8 0, List.getD xs 9 0, List.getD xs 10 0, List.getD xs 11 0, List.getD xs 12 0, List.getD xs 13 0, List.getD xs 14 0, List.getD xs 15 0, List.getD xs 16 0, List.getD xs 17 0, List.getD xs 18 0, List.getD xs 19 0, List.getD xs 20 0, List.getD xs 21 0, List.getD xs 22 0]))
          (
          K (.tup [vi (0), vi (0)]) [])
          (
          ((
            True) ∧ (
            K (.tup [vi (Go.IntKind.wrap Go.IntKind.i64 (List.getD xs 23 0 * 4)), vi (if Go.IntKind.wrap Go.IntKind.i64 (Go.Rx.v14_2 [List.getD xs (0 : Nat) (0 : Int), List.getD xs (1 : Nat) (0 : Int), List.getD xs (2 : Nat) (0 : Int), List.getD xs (3 : Nat) (0 : Int), List.getD xs (4 : Nat) (0 : Int), List.getD xs (5 : Nat) (0 : Int), List.getD xs (6 : Nat) (0 : Int), List.getD xs (7 : Nat) (0 : Int), List.getD xs (8 : Nat) (0 : Int), List.getD xs (9 : Nat) (0 : Int), List.getD xs (10 : Nat) (0 : Int), List.getD xs (11 : Nat) (0 : Int), List.getD xs (12 : Nat) (0 : Int), List.getD xs (13 : Nat) (0 : Int), List.getD xs (14 : Nat) (0 : Int), List.getD xs (15 : Nat) (0 : Int), List.getD xs (16 : Nat) (0 : Int), List.getD xs (17 : Nat) (0 : Int), List.getD xs (18 : Nat) (0 : Int), List.getD xs (19 : Nat) (0 : Int), List.getD xs (20 : Nat) (0 : Int), List.getD xs (21 : Nat) (0 : Int), List.getD xs (22 : Nat) (0 : Int)] - Go.IntKind.wrap Go.IntKind.i64 (List.getD xs (23 : Nat) (0 : Int) * (4 : Int))) < (4 : Int) then Go.IntKind.wrap Go.IntKind.i64 (Go.Rx.v14_2 [List.getD xs (0 : Nat) (0 : Int), List.getD xs (1 : Nat) (0 : Int), List.getD xs (2 : Nat) (0 : Int), List.getD xs (3 : Nat) (0 : Int), List.getD xs (4 : Nat) (0 : Int), List.getD xs (5 : Nat) (0 : Int), List.getD xs (6 : Nat) (0 : Int), List.getD xs (7 : Nat) (0 : Int), List.getD xs (8 : Nat) (0 : Int), List.getD xs (9 : Nat) (0 : Int), List.getD xs (10 : Nat) (0 : Int), List.getD xs (11 : Nat) (0 : Int), List.getD xs (12 : Nat) (0 : Int), List.getD xs (13 : Nat) (0 : Int), List.getD xs (14 : Nat) (0 : Int), List.getD xs (15 : Nat) (0 : Int), List.getD xs (16 : Nat) (0 : Int), List.getD xs (17 : Nat) (0 : Int), List.getD xs (18 : Nat) (0 : Int), List.getD xs (19 : Nat) (0 : Int), List.getD xs (20 : Nat) (0 : Int), List.getD xs (21 : Nat) (0 : Int), List.getD xs (22 : Nat) (0 : Int)] - Go.IntKind.wrap Go.IntKind.i64 (List.getD xs (23 : Nat) (0 : Int) * (4 : Int))) else (4 : Int))]) []))))))
      (
      K (.tup [vi (0), vi (0)]) [])) := by
  kernel_rfl

theorem nf98 (xs : List Int) (K : V → Heap → Prop) : (exF (cfg8 98) Try.f98 (mkA [23, 0, 0] 0 xs) [] K) = (
    ((
      True) ∧ (
      br (Decidable.decide (List.getD xs 24 0 < 1))
        (
        K (.tup [vi (0), vi (0), vb (Bool.false)]) [])
        (
        br (Decidable.decide (List.getD xs 23 0 < 0))
          (
          K (.tup [vi (0), vi (0), vb (Bool.false)]) [])
          (
          br (Decidable.decide (List.getD xs 23 0 ≥ Go.Rx.v14_2 [List.getD xs 0 0, List.getD xs 1 0, List.getD xs 2 0, List.getD xs 3 0, List.getD xs 4 0, List.getD xs 5 0, List.getD xs 6 0, List.getD xs 7 0, List.getD xs 8 0, List.getD xs 9 0, List.getD xs 10 0, List.getD xs 11 0, List.getD xs 12 0, List.getD xs 13 0, List.getD xs 14 0, List.getD xs 15 0, List.getD xs 16 0, List.getD xs 17 0, List.getD xs 18 0, List.getD xs 19 0, List.getD xs 20 0, List.getD xs 21 0, List.getD xs 22 0]))
            (
            K (.tup [vi (0), vi (0), vb (Bool.false)]) [])
            (
            br (Decidable.decide (List.getD xs 24 0 > Go.IntKind.wrap Go.IntKind.i64 (Go.Rx.v14_2 [List.getD xs 0 0, List.getD xs 1 0, List.getD xs 2 0, List.getD xs 3 0, List.getD xs 4 0, List.getD xs 5 0, List.getD xs 6 0, List.getD xs 7 0, List.getD xs 8 0, List.getD xs 9 0, List.getD xs 10 0, List.getD xs 11 0, List.getD xs 12 0, List.getD xs 13 0, List.getD xs 14 0, List.getD xs 15 0, List.getD xs 16 0, List.getD xs 17 0, List.getD xs 18 0, List.getD xs 19 0, List.getD xs 20 0, List.getD xs 21 0, List.getD xs 22 0] - List.getD xs 23 0)))
              (
              K (.tup [vi (0), vi (0), vb (Bool.false)]) [])
              (
              br (Decidable.decide (List.getD xs 23 0 < 0))
                (
                br (Decidable.decide (Go.IntKind.wrap Go.IntKind.i64 (Go.IntKind.wrap Go.IntKind.i64 (List.getD xs 23 0 + List.getD xs 24 0) - 1) < 0))
                  (
                  K (.tup [vi (-1), vi (-1), vb (Bool.true)]) [])
                  (
                  K (.tup [vi (-1), vi (Go.IntKind.wrap Go.IntKind.i64 (Int.tdiv (Go.IntKind.wrap Go.IntKind.i64 (Go.IntKind.wrap Go.IntKind.i64 (List.getD xs 23 0 + List.getD xs 24 0) - 1)) 4)), vb (Bool.true)]) []))
                (
                br (Decidable.decide (Go.IntKind.wrap Go.IntKind.i64 (Go.IntKind.wrap Go.IntKind.i64 (List.getD xs 23 0 + List.getD xs 24 0) - 1) < 0))
                  (
                  K (.tup [vi (Go.IntKind.wrap Go.IntKind.i64 (Int.tdiv (List.getD xs 23 0) 4)), vi (-1), vb (Bool.true)]) [])
                  (
                  K (.tup [vi (Go.IntKind.wrap Go.IntKind.i64 (Int.tdiv (List.getD xs 23 0) 4)), vi (Go.IntKind.wrap Go.IntKind.i64 (Int.tdiv (Go.IntKind.wrap Go.IntKind.i64 (Go.IntKind.wrap Go.IntKind.i64 (List.getD xs 23 0 + List.getD xs 24 0) - 1)) 4)), vb (Bool.true)]) []))))))))) := by
  kernel_rfl

theorem nf95 (xs : List Int) (K : V → Heap → Prop) : (exF (cfg8 95) Try.f95 (mkA [11] 0 xs) [] K) = (
    ((
      True) ∧ (
      K (.agg [vi (Go.IntKind.wrap Go.IntKind.i64 (1 + Int.tmod (Go.Rx.v17_0 [List.getD xs 0 0, List.getD xs 1 0, List.getD xs 2 0, List.getD xs 3 0, List.getD xs 4 0, List.getD xs 5 0, List.getD xs 6 0, List.getD xs 7 0, List.getD xs 8 0, List.getD xs 9 0, List.getD xs 10 0]) 4)), vi (Go.IntKind.wrap Go.IntKind.i64 (1 + Int.tmod (Go.Rx.v17_1 [List.getD xs 0 0, List.getD xs 1 0, List.getD xs 2 0, List.getD xs 3 0, List.getD xs 4 0, List.getD xs 5 0, List.getD xs 6 0, List.getD xs 7 0, List.getD xs 8 0, List.getD xs 9 0, List.getD xs 10 0]) 2)), vi (Go.IntKind.wrap Go.IntKind.i64 (1 + Int.tmod (Go.Rx.v17_2 [List.getD xs 0 0, List.getD xs 1 0, List.getD xs 2 0, List.getD xs 3 0, List.getD xs 4 0, List.getD xs 5 0, List.getD xs 6 0, List.getD xs 7 0, List.getD xs 8 0, List.getD xs 9 0, List.getD xs 10 0]) 9)), vi (Go.IntKind.wrap Go.IntKind.i64 (1 + Int.tmod (Go.Rx.v17_3 [List.getD xs 0 0, List.getD xs 1 0, List.getD xs 2 0, List.getD xs 3 0, List.getD xs 4 0, List.getD xs 5 0, List.getD xs 6 0, List.getD xs 7 0, List.getD xs 8 0, List.getD xs 9 0, List.getD xs 10 0]) 4)), vi (Go.Rx.v17_4 [List.getD xs 0 0, List.getD xs 1 0, List.getD xs 2 0, List.getD xs 3 0, List.getD xs 4 0, List.getD xs 5 0, List.getD xs 6 0, List.getD xs 7 0, List.getD xs 8 0, List.getD xs 9 0, List.getD xs 10 0]), vi (Go.Rx.v17_5 [List.getD xs 0 0, List.getD xs 1 0, List.getD xs 2 0, List.getD xs 3 0, List.getD xs 4 0, List.getD xs 5 0, List.getD xs 6 0, List.getD xs 7 0, List.getD xs 8 0, List.getD xs 9 0, List.getD xs 10 0]), vi (Go.Rx.v17_6 [List.getD xs 0 0, List.getD xs 1 0, List.getD xs 2 0, List.getD xs 3 0, List.getD xs 4 0, List.getD xs 5 0, List.getD xs 6 0, List.getD xs 7 0, List.getD xs 8 0, List.getD xs 9 0, List.getD xs 10 0]), vi (Go.IntKind.wrap Go.IntKind.i64 (1 + Int.tmod (Go.Rx.v17_7 [List.getD xs 0 0, List.getD xs 1 0, List.getD xs 2 0, List.getD xs 3 0, List.getD xs 4 0, List.getD xs 5 0, List.getD xs 6 0, List.getD xs 7 0, List.getD xs 8 0, List.getD xs 9 0, List.getD xs 10 0]) 3)), vi (Int.tmod (Go.Rx.v17_8 [List.getD xs 0 0, List.getD xs 1 0, List.getD xs 2 0, List.getD xs 3 0, List.getD xs 4 0, List.getD xs 5 0, List.getD xs 6 0, List.getD xs 7 0, List.getD xs 8 0, List.getD xs 9 0, List.getD xs 10 0]) 3), vi (Int.tmod (Go.Rx.v17_9 [List.getD xs 0 0, List.getD xs 1 0, List.getD xs 2 0, List.getD xs 3 0, List.getD xs 4 0, List.getD xs 5 0, List.getD xs 6 0, List.getD xs 7 0, List.getD xs 8 0, List.getD xs 9 0, List.getD xs 10 0]) 4), vi (Go.IntKind.wrap Go.IntKind.i64 (1 + Int.tmod (Go.Rx.v17_10 [List.getD xs 0 0, List.getD xs 1 0, List.getD xs 2 0, List.getD xs 3 0, List.getD xs 4 0, List.getD xs 5 0, List.getD xs 6 0, List.getD xs 7 0, List.getD xs 8 0, List.getD xs 9 0, List.getD xs 10 0]) 3))]) []))) := by
  kernel_rfl

end Go.Rx
end

section
/- What layer 8's functions without views tell, off their normal forms (by a program of this session's); their contracts. -/
namespace Go.Rx
open Go.Proofs

def v63_0 (xs : List Int) : Int := (bif (Decidable.decide (List.getD xs 0 0 < 0)) then (-1) else (Go.IntKind.wrap Go.IntKind.i64 (Int.tdiv (List.getD xs 0 0) 4)))

def p63 (xs : List Int) : Prop := True

def s63 : Spec := fS [0] p63 (fun xs => vi (v63_0 xs))

def q63 : Spec where
  tr := fun args H K => match H, shA [0] args with
    | [], some xs => p63 xs ∧ ∀ (x0 : Int), x0 = v63_0 xs → K (vi x0) []
    | _, _ => False

def v64_0 (xs : List Int) : Int := (bif (Decidable.decide (List.getD xs 0 0 < 0)) then (-1) else (Go.IntKind.wrap Go.IntKind.i64 (Int.tdiv (List.getD xs 0 0) 4)))

def p64 (xs : List Int) : Prop := True

def s64 : Spec := fS [0] p64 (fun xs => vi (v64_0 xs))

def q64 : Spec where
  tr := fun args H K => match H, shA [0] args with
    | [], some xs => p64 xs ∧ ∀ (x0 : Int), x0 = v64_0 xs → K (vi x0) []
    | _, _ => False

def v84_0 (xs : List Int) : Bool := (bif (Decidable.decide (List.getD xs 11 0 ≥ 0)) then (Decidable.decide (List.getD xs 11 0 < Go.Rx.v19_0 [List.getD xs 0 0, List.getD xs 1 0, List.getD xs 2 0, List.getD xs 3 0, List.getD xs 4 0, List.getD xs 5 0, List.getD xs 6 0, List.getD xs 7 0, List.getD xs 8 0, List.getD xs 9 0, List.getD xs 10 0])) else (Bool.false))

def p84 (xs : List Int) : Prop := True

def s84 : Spec := fS [11, 0] p84 (fun xs => vb (v84_0 xs))

def q84 : Spec where
  tr := fun args H K => match H, shA [11, 0] args with
    | [], some xs => p84 xs ∧ ∀ (x0 : Bool), x0 = v84_0 xs → K (vb x0) []
    | _, _ => False

def v62_0 (xs : List Int) : Int := (bif (Decidable.decide (List.getD xs 11 0 ≥ 0)) then (bif (!Decidable.decide (List.getD xs 11 0 < Go.Rx.v19_0 [List.getD xs 0 0, List.getD xs 1 0, List.getD xs 2 0, List.getD xs 3 0, List.getD xs 4 0, List.getD xs 5 0, List.getD xs 6 0, List.getD xs 7 0, List.getD xs 8 0, List.getD xs 9 0, List.getD xs 10 0])) then (0) else (Go.IntKind.wrap Go.IntKind.i64 (4 * List.getD xs 11 0))) else (0))

def v62_1 (xs : List Int) : Int := (bif (Decidable.decide (List.getD xs 11 0 ≥ 0)) then (bif (!Decidable.decide (List.getD xs 11 0 < Go.Rx.v19_0 [List.getD xs 0 0, List.getD xs 1 0, List.getD xs 2 0, List.getD xs 3 0, List.getD xs 4 0, List.getD xs 5 0, List.getD xs 6 0, List.getD xs 7 0, List.getD xs 8 0, List.getD xs 9 0, List.getD xs 10 0])) then (0) else (if Go.IntKind.wrap Go.IntKind.i64 (List.getD xs (2 : Nat) (0 : Int) - Go.IntKind.wrap Go.IntKind.i64 ((4 : Int) * List.getD xs (11 : Nat) (0 : Int))) < (4 : Int) then Go.IntKind.wrap Go.IntKind.i64 (List.getD xs (2 : Nat) (0 : Int) - Go.IntKind.wrap Go.IntKind.i64 ((4 : Int) * List.getD xs (11 : Nat) (0 : Int))) else (4 : Int))) else (0))

def p62 (xs : List Int) : Prop := True

def s62 : Spec := fS [11, 0] p62 (fun xs => .tup [vi (v62_0 xs), vi (v62_1 xs)])

def q62 : Spec where
  tr := fun args H K => match H, shA [11, 0] args with
    | [], some xs => p62 xs ∧ ∀ (x0 : Int) (x1 : Int), x0 = v62_0 xs → x1 = v62_1 xs → K (.tup [vi x0, vi x1]) []
    | _, _ => False

def v94_0 (xs : List Int) : Bool := (bif (Decidable.decide (List.getD xs 23 0 ≥ 0)) then (Decidable.decide (List.getD xs 23 0 < Go.Rx.v18_0 [List.getD xs 0 0, List.getD xs 1 0, List.getD xs 2 0, List.getD xs 3 0, List.getD xs 4 0, List.getD xs 5 0, List.getD xs 6 0, List.getD xs 7 0, List.getD xs 8 0, List.getD xs 9 0, List.getD xs 10 0, List.getD xs 11 0, List.getD xs 12 0, List.getD xs 13 0, List.getD xs 14 0, List.getD xs 15 0, List.getD xs 16 0, List.getD xs 17 0, List.getD xs 18 0, List.getD xs 19 0, List.getD xs 20 0, List.getD xs 21 0, List.getD xs 22 0])) else (Bool.false))

def p94 (xs : List Int) : Prop := (((Decidable.decide (List.getD xs 23 0 ≥ 0)) = true → (((( (Int.NonNeg (List.getD xs 2 0 - 0))) ∧ ( (Int.NonNeg (1099511627776 - List.getD xs 2 0))))))))

def s94 : Spec := fS [24] p94 (fun xs => vb (v94_0 xs))

def q94 : Spec where
  tr := fun args H K => match H, shA [24] args with
    | [], some xs => p94 xs ∧ ∀ (x0 : Bool), x0 = v94_0 xs → K (vb x0) []
    | _, _ => False

def v83_0 (xs : List Int) : Int := (bif (Decidable.decide (List.getD xs 23 0 ≥ 0)) then (bif (!Decidable.decide (List.getD xs 23 0 < Go.Rx.v18_0 [List.getD xs 0 0, List.getD xs 1 0, List.getD xs 2 0, List.getD xs 3 0, List.getD xs 4 0, List.getD xs 5 0, List.getD xs 6 0, List.getD xs 7 0, List.getD xs 8 0, List.getD xs 9 0, List.getD xs 10 0, List.getD xs 11 0, List.getD xs 12 0, List.getD xs 13 0, List.getD xs 14 0, List.getD xs 15 0, List.getD xs 16 0, List.getD xs 17 0, List.getD xs 18 0, List.getD xs 19 0, List.getD xs 20 0, List.getD xs 21 0, List.getD xs 22 0])) then (0) else (Go.IntKind.wrap Go.IntKind.i64 (List.getD xs 23 0 * 4))) else (0))

def v83_1 (xs : List Int) : Int := (bif (Decidable.decide (List.getD xs 23 0 ≥ 0)) then (bif (!Decidable.decide (List.getD xs 23 0 < Go.Rx.v18_0 [List.getD xs 0 0, List.getD xs 1 0, List.getD xs 2 0, List.getD xs 3 0, List.getD xs 4 0, List.getD xs 5 0, List.getD xs 6 0, List.getD xs 7 0, List.getD xs 8 0, List.getD xs 9 0, List.getD xs 10 0, List.getD xs 11 0, List.getD xs 12 0, List.getD xs 13 0, List.getD xs 14 0, List.getD xs 15 0, List.getD xs 16 0, List.getD xs 17 0, List.getD xs 18 0, List.getD xs 19 0, List.getD xs 20 0, List.getD xs 21 0, List.getD xs 22 0])) then (0) else (if Go.IntKind.wrap Go.IntKind.i64 (Go.Rx.v14_2 [List.getD xs (0 : Nat) (0 : Int), List.getD xs (1 : Nat) (0 : Int), List.getD xs (2 : Nat) (0 : Int), List.getD xs (3 : Nat) (0 : Int), List.getD xs (4 : Nat) (0 : Int), List.getD xs (5 : Nat) (0 : Int), List.getD xs (6 : Nat) (0 : Int), List.getD xs (7 : Nat) (0 : Int), List.getD xs (8 : Nat) (0 : Int), List.getD xs (9 : Nat) (0 : Int), List.getD xs (10 : Nat) (0 : Int), List.getD xs (11 : Nat) (0 : Int), List.getD xs (12 : Nat) (0 : Int), List.getD xs (13 : Nat) (0 : Int), List.getD xs (14 : Nat) (0 : Int), List.getD xs (15 : Nat) (0 : Int), List.getD xs (16 : Nat) (0 : Int), List.getD xs (17 : Nat) (0 : Int), List.getD xs (18 : Nat) (0 : Int), List.getD xs (19 : Nat) (0 : Int), List.getD xs (20 : Nat) (0 : Int), List.getD xs (21 : Nat) (0 : Int), List.getD xs (22 : Nat) (0 : Int)] - Go.IntKind.wrap Go.IntKind.i64 (List.getD xs (23 : Nat) (0 : Int) * (4 : Int))) < (4 : Int) then Go.IntKind.wrap Go.IntKind.i64 (Go.Rx.v14_2 [List.getD xs (0 : Nat) (0 : Int), List.getD xs (1 : Nat) (0 : Int), List.getD xs (2 : Nat) (0 : Int), List.getD xs (3 : Nat) (0 : Int), List.getD xs (4 : Nat) (0 : Int), List.getD xs (5 : Nat) (0 : Int), List.getD xs (6 : Nat) (0 : Int), List.getD xs (7 : Nat) (0 : Int), List.getD xs (8 : Nat) (0 : Int), List.getD xs (9 : Nat) (0 : Int), List.getD xs (10 : Nat) (0 : Int), List.getD xs (11 : Nat) (0 : Int), List.getD xs (12 : Nat) (0 : Int), List.getD xs (13 : Nat) (0 : Int), List.getD xs (14 : Nat) (0 : Int), List.getD xs (15 : Nat) (0 : Int), List.getD xs (16 : Nat) (0 : Int), List.getD xs (17 : Nat) (0 : Int), List.getD xs (18 : Nat) (0 : Int), List.getD xs (19 : Nat) (0 : Int), List.getD xs (20 : Nat) (0 : Int), List.getD xs (21 : Nat) (0 : Int), List.getD xs (22 : Nat) (0 : Int)] - Go.IntKind.wrap Go.IntKind.i64 (List.getD xs (23 : Nat) (0 : Int) * (4 : Int))) else (4 : Int))) else (0))

def p83 (xs : List Int) : Prop := (((Decidable.decide (List.getD xs 23 0 ≥ 0)) = true → (((( (Int.NonNeg (List.getD xs 2 0 - 0))) ∧ ( (Int.NonNeg (1099511627776 - List.getD xs 2 0))))))))

def s83 : Spec := fS [24] p83 (fun xs => .tup [vi (v83_0 xs), vi (v83_1 xs)])

def q83 : Spec where
  tr := fun args H K => match H, shA [24] args with
    | [], some xs => p83 xs ∧ ∀ (x0 : Int) (x1 : Int), x0 = v83_0 xs → x1 = v83_1 xs → K (.tup [vi x0, vi x1]) []
    | _, _ => False

def v98_0 (xs : List Int) : Int := (bif (Decidable.decide (List.getD xs 24 0 < 1)) then (0) else (bif (Decidable.decide (List.getD xs 23 0 < 0)) then (0) else (bif (Decidable.decide (List.getD xs 23 0 ≥ Go.Rx.v14_2 [List.getD xs 0 0, List.getD xs 1 0, List.getD xs 2 0, List.getD xs 3 0, List.getD xs 4 0, List.getD xs 5 0, List.getD xs 6 0, List.getD xs 7 0, List.getD xs 8 0, List.getD xs 9 0, List.getD xs 10 0, List.getD xs 11 0, List.getD xs 12 0, List.getD xs 13 0, List.getD xs 14 0, List.getD xs 15 0, List.getD xs 16 0, List.getD xs 17 0, List.getD xs 18 0, List.getD xs 19 0, List.getD xs 20 0, List.getD xs 21 0, List.getD xs 22 0])) then (0) else (bif (Decidable.decide (List.getD xs 24 0 > Go.IntKind.wrap Go.IntKind.i64 (Go.Rx.v14_2 [List.getD xs 0 0, List.getD xs 1 0, List.getD xs 2 0, List.getD xs 3 0, List.getD xs 4 0, List.getD xs 5 0, List.getD xs 6 0, List.getD xs 7 0, List.getD xs 8 0, List.getD xs 9 0, List.getD xs 10 0, List.getD xs 11 0, List.getD xs 12 0, List.getD xs 13 0, List.getD xs 14 0, List.getD xs 15 0, List.getD xs 16 0, List.getD xs 17 0, List.getD xs 18 0, List.getD xs 19 0, List.getD xs 20 0, List.getD xs 21 0, List.getD xs 22 0] - List.getD xs 23 0))) then (0) else (Go.IntKind.wrap Go.IntKind.i64 (Int.tdiv (List.getD xs 23 0) 4))))))

def v98_1 (xs : List Int) : Int := (bif (Decidable.decide (List.getD xs 24 0 < 1)) then (0) else (bif (Decidable.decide (List.getD xs 23 0 < 0)) then (0) else (bif (Decidable.decide (List.getD xs 23 0 ≥ Go.Rx.v14_2 [List.getD xs 0 0, List.getD xs 1 0, List.getD xs 2 0, List.getD xs 3 0, List.getD xs 4 0, List.getD xs 5 0, List.getD xs 6 0, List.getD xs 7 0, List.getD xs 8 0, List.getD xs 9 0, List.getD xs 10 0, List.getD xs 11 0, List.getD xs 12 0, List.getD xs 13 0, List.getD xs 14 0, List.getD xs 15 0, List.getD xs 16 0, List.getD xs 17 0, List.getD xs 18 0, List.getD xs 19 0, List.getD xs 20 0, List.getD xs 21 0, List.getD xs 22 0])) then (0) else (bif (Decidable.decide (List.getD xs 24 0 > Go.IntKind.wrap Go.IntKind.i64 (Go.Rx.v14_2 [List.getD xs 0 0, List.getD xs 1 0, List.getD xs 2 0, List.getD xs 3 0, List.getD xs 4 0, List.getD xs 5 0, List.getD xs 6 0, List.getD xs 7 0, List.getD xs 8 0, List.getD xs 9 0, List.getD xs 10 0, List.getD xs 11 0, List.getD xs 12 0, List.getD xs 13 0, List.getD xs 14 0, List.getD xs 15 0, List.getD xs 16 0, List.getD xs 17 0, List.getD xs 18 0, List.getD xs 19 0, List.getD xs 20 0, List.getD xs 21 0, List.getD xs 22 0] - List.getD xs 23 0))) then (0) else (bif (Decidable.decide (Go.IntKind.wrap Go.IntKind.i64 (Go.IntKind.wrap Go.IntKind.i64 (List.getD xs 23 0 + List.getD xs 24 0) - 1) < 0)) then (-1) else (Go.IntKind.wrap Go.IntKind.i64 (Int.tdiv (Go.IntKind.wrap Go.IntKind.i64 (Go.IntKind.wrap Go.IntKind.i64 (List.getD xs 23 0 + List.getD xs 24 0) - 1)) 4)))))))

def v98_2 (xs : List Int) : Bool := (bif (Decidable.decide (List.getD xs 24 0 < 1)) then (Bool.false) else (bif (Decidable.decide (List.getD xs 23 0 < 0)) then (Bool.false) else (bif (Decidable.decide (List.getD xs 23 0 ≥ Go.Rx.v14_2 [List.getD xs 0 0, List.getD xs 1 0, List.getD xs 2 0, List.getD xs 3 0, List.getD xs 4 0, List.getD xs 5 0, List.getD xs 6 0, List.getD xs 7 0, List.getD xs 8 0, List.getD xs 9 0, List.getD xs 10 0, List.getD xs 11 0, List.getD xs 12 0, List.getD xs 13 0, List.getD xs 14 0, List.getD xs 15 0, List.getD xs 16 0, List.getD xs 17 0, List.getD xs 18 0, List.getD xs 19 0, List.getD xs 20 0, List.getD xs 21 0, List.getD xs 22 0])) then (Bool.false) else (bif (Decidable.decide (List.getD xs 24 0 > Go.IntKind.wrap Go.IntKind.i64 (Go.Rx.v14_2 [List.getD xs 0 0, List.getD xs 1 0, List.getD xs 2 0, List.getD xs 3 0, List.getD xs 4 0, List.getD xs 5 0, List.getD xs 6 0, List.getD xs 7 0, List.getD xs 8 0, List.getD xs 9 0, List.getD xs 10 0, List.getD xs 11 0, List.getD xs 12 0, List.getD xs 13 0, List.getD xs 14 0, List.getD xs 15 0, List.getD xs 16 0, List.getD xs 17 0, List.getD xs 18 0, List.getD xs 19 0, List.getD xs 20 0, List.getD xs 21 0, List.getD xs 22 0] - List.getD xs 23 0))) then (Bool.false) else (Bool.true)))))

def p98 (xs : List Int) : Prop := True

def s98 : Spec := fS [23, 0, 0] p98 (fun xs => .tup [vi (v98_0 xs), vi (v98_1 xs), vb (v98_2 xs)])

def q98 : Spec where
  tr := fun args H K => match H, shA [23, 0, 0] args with
    | [], some xs => p98 xs ∧ ∀ (x0 : Int) (x1 : Int) (x2 : Bool), x0 = v98_0 xs → x1 = v98_1 xs → x2 = v98_2 xs → K (.tup [vi x0, vi x1, vb x2]) []
    | _, _ => False

def v95_0 (xs : List Int) : Int := (Go.IntKind.wrap Go.IntKind.i64 (1 + Int.tmod (Go.Rx.v17_0 [List.getD xs 0 0, List.getD xs 1 0, List.getD xs 2 0, List.getD xs 3 0, List.getD xs 4 0, List.getD xs 5 0, List.getD xs 6 0, List.getD xs 7 0, List.getD xs 8 0, List.getD xs 9 0, List.getD xs 10 0]) 4))

def v95_1 (xs : List Int) : Int := (Go.IntKind.wrap Go.IntKind.i64 (1 + Int.tmod (Go.Rx.v17_1 [List.getD xs 0 0, List.getD xs 1 0, List.getD xs 2 0, List.getD xs 3 0, List.getD xs 4 0, List.getD xs 5 0, List.getD xs 6 0, List.getD xs 7 0, List.getD xs 8 0, List.getD xs 9 0, List.getD xs 10 0]) 2))

def v95_2 (xs : List Int) : Int := (Go.IntKind.wrap Go.IntKind.i64 (1 + Int.tmod (Go.Rx.v17_2 [List.getD xs 0 0, List.getD xs 1 0, List.getD xs 2 0, List.getD xs 3 0, List.getD xs 4 0, List.getD xs 5 0, List.getD xs 6 0, List.getD xs 7 0, List.getD xs 8 0, List.getD xs 9 0, List.getD xs 10 0]) 9))

def v95_3 (xs : List Int) : Int := (Go.IntKind.wrap Go.IntKind.i64 (1 + Int.tmod (Go.Rx.v17_3 [List.getD xs 0 0, List.getD xs 1 0, List.getD xs 2 0, List.getD xs 3 0, List.getD xs 4 0, List.getD xs 5 0, List.getD xs 6 0, List.getD xs 7 0, List.getD xs 8 0, List.getD xs 9 0, List.getD xs 10 0]) 4))

def v95_4 (xs : List Int) : Int := (Go.Rx.v17_4 [List.getD xs 0 0, List.getD xs 1 0, List.getD xs 2 0, List.getD xs 3 0, List.getD xs 4 0, List.getD xs 5 0, List.getD xs 6 0, List.getD xs 7 0, List.getD xs 8 0, List.getD xs 9 0, List.getD xs 10 0])

def v95_5 (xs : List Int) : Int := (Go.Rx.v17_5 [List.getD xs 0 0, List.getD xs 1 0, List.getD xs 2 0, List.getD xs 3 0, List.getD xs 4 0, List.getD xs 5 0, List.getD xs 6 0, List.getD xs 7 0, List.getD xs 8 0, List.getD xs 9 0, List.getD xs 10 0])

def v95_6 (xs : List Int) : Int := (Go.Rx.v17_6 [List.getD xs 0 0, List.getD xs 1 0, List.getD xs 2 0, List.getD xs 3 0, List.getD xs 4 0, List.getD xs 5 0, List.getD xs 6 0, List.getD xs 7 0, List.getD xs 8 0, List.getD xs 9 0, List.getD xs 10 0])

def v95_7 (xs : List Int) : Int := (Go.IntKind.wrap Go.IntKind.i64 (1 + Int.tmod (Go.Rx.v17_7 [List.getD xs 0 0, List.getD xs 1 0, List.getD xs 2 0, List.getD xs 3 0, List.getD xs 4 0, List.getD xs 5 0, List.getD xs 6 0, List.getD xs 7 0, List.getD xs 8 0, List.getD xs 9 0, List.getD xs 10 0]) 3))

def v95_8 (xs : List Int) : Int := (Int.tmod (Go.Rx.v17_8 [List.getD xs 0 0, List.getD xs 1 0, List.getD xs 2 0, List.getD xs 3 0, List.getD xs 4 0, List.getD xs 5 0, List.getD xs 6 0, List.getD xs 7 0, List.getD xs 8 0, List.getD xs 9 0, List.getD xs 10 0]) 3)

def v95_9 (xs : List Int) : Int := (Int.tmod (Go.Rx.v17_9 [List.getD xs 0 0, List.getD xs 1 0, List.getD xs 2 0, List.getD xs 3 0, List.getD xs 4 0, List.getD xs 5 0, List.getD xs 6 0, List.getD xs 7 0, List.getD xs 8 0, List.getD xs 9 0, List.getD xs 10 0]) 4)

def v95_10 (xs : List Int) : Int := (Go.IntKind.wrap Go.IntKind.i64 (1 + Int.tmod (Go.Rx.v17_10 [List.getD xs 0 0, List.getD xs 1 0, List.getD xs 2 0, List.getD xs 3 0, List.getD xs 4 0, List.getD xs 5 0, List.getD xs 6 0, List.getD xs 7 0, List.getD xs 8 0, List.getD xs 9 0, List.getD xs 10 0]) 3))

def p95 (xs : List Int) : Prop := True

def s95 : Spec := fS [11] p95 (fun xs => .agg [vi (v95_0 xs), vi (v95_1 xs), vi (v95_2 xs), vi (v95_3 xs), vi (v95_4 xs), vi (v95_5 xs), vi (v95_6 xs), vi (v95_7 xs), vi (v95_8 xs), vi (v95_9 xs), vi (v95_10 xs)])

def q95 : Spec where
  tr := fun args H K => match H, shA [11] args with
    | [], some xs => p95 xs ∧ ∀ (x0 : Int) (x1 : Int) (x2 : Int) (x3 : Int) (x4 : Int) (x5 : Int) (x6 : Int) (x7 : Int) (x8 : Int) (x9 : Int) (x10 : Int), x0 = v95_0 xs → x1 = v95_1 xs → x2 = v95_2 xs → x3 = v95_3 xs → x4 = v95_4 xs → x5 = v95_5 xs → x6 = v95_6 xs → x7 = v95_7 xs → x8 = v95_8 xs → x9 = v95_9 xs → x10 = v95_10 xs → K (.agg [vi x0, vi x1, vi x2, vi x3, vi x4, vi x5, vi x6, vi x7, vi x8, vi x9, vi x10]) []
    | _, _ => False



attribute [local irreducible] Loop ex exF contK roundK retK at_ bodyOf mkEnv mkA

theorem sig8a_ok : ∀ g s, sig8a g = some s → SpecOK Try.prog elTT g s := by
  intro g s hs
  unfold sig8a at hs
  split at hs
  · injection hs with hs; subst hs; exact ok14
  · injection hs with hs; subst hs; exact ok17
  · injection hs with hs; subst hs; exact ok18
  · injection hs with hs; subst hs; exact ok19
  · injection hs with hs; subst hs; exact inl_ok (cfg := cfgB) (cfg_ok rfl rfl rfl) (nosig rfl) (fn := Try.f63) (by kernel_rfl) (by kernel_rfl) (by kernel_rfl)
  · injection hs with hs; subst hs
    exact inl_ok (cfg := { cfgB with sigs := fun f => match f with | 19 => some s19 | _ => none }) (cfg_ok rfl rfl rfl) (by
      intro g s h
      simp only at h
      split at h
      · injection h with h; subst h; exact ok19
      · cases h) (fn := Try.f84) (by kernel_rfl) (by kernel_rfl) (by kernel_rfl)
  · injection hs with hs; subst hs
    exact inl_ok (cfg := { cfgB with sigs := (fun f => match f with | 18 => some s18 | _ => none), plan := plan8 94 }) (cfg_ok rfl rfl rfl) (by
      intro g s h
      simp only at h
      split at h
      · injection h with h; subst h; exact ok18
      · cases h) (fn := Try.f94) (by kernel_rfl) (by kernel_rfl) (by kernel_rfl)
  · cases hs

theorem ok63 : SpecOK Try.prog elTT 63 s63 :=
  fS_ok (cfg := cfg8 63) (cfg_ok rfl rfl rfl) sig8a_ok (fn := Try.f63) (by kernel_rfl) (by kernel_rfl) (by kernel_rfl) fun xs K hp hk => Eq.mpr (nf63 xs K) (br_intro (fun h0 => by simpa only [v63_0, h0, cond_true, cond_false] using hk) (fun h0 => by simpa only [v63_0, h0, cond_true, cond_false] using hk))

theorem okq63 : SpecOK Try.prog elTT 63 q63 :=
  spec_mono (fun args H K h => by
    unfold q63 at h
    simp only at h
    split at h
    · rename_i xs hxs
      unfold s63 fS
      simp only [hxs]
      exact ⟨h.1, h.2 _ rfl⟩
    · exact h.elim) ok63

theorem ok64 : SpecOK Try.prog elTT 64 s64 :=
  fS_ok (cfg := cfg8 64) (cfg_ok rfl rfl rfl) sig8a_ok (fn := Try.f64) (by kernel_rfl) (by kernel_rfl) (by kernel_rfl) fun xs K hp hk => Eq.mpr (nf64 xs K) (br_intro (fun h0 => by simpa only [v64_0, h0, cond_true, cond_false] using hk) (fun h0 => by simpa only [v64_0, h0, cond_true, cond_false] using hk))

theorem okq64 : SpecOK Try.prog elTT 64 q64 :=
  spec_mono (fun args H K h => by
    unfold q64 at h
    simp only at h
    split at h
    · rename_i xs hxs
      unfold s64 fS
      simp only [hxs]
      exact ⟨h.1, h.2 _ rfl⟩
    · exact h.elim) ok64

theorem ok84 : SpecOK Try.prog elTT 84 s84 :=
  fS_ok (cfg := cfg8 84) (cfg_ok rfl rfl rfl) sig8a_ok (fn := Try.f84) (by kernel_rfl) (by kernel_rfl) (by kernel_rfl) fun xs K hp hk => Eq.mpr (nf84 xs K) (br_intro (fun h0 => ⟨trivial, by simpa only [v84_0, h0, cond_true, cond_false] using hk⟩) (fun h0 => by simpa only [v84_0, h0, cond_true, cond_false] using hk))

theorem okq84 : SpecOK Try.prog elTT 84 q84 :=
  spec_mono (fun args H K h => by
    unfold q84 at h
    simp only at h
    split at h
    · rename_i xs hxs
      unfold s84 fS
      simp only [hxs]
      exact ⟨h.1, h.2 _ rfl⟩
    · exact h.elim) ok84

theorem ok62 : SpecOK Try.prog elTT 62 s62 :=
  fS_ok (cfg := cfg8 62) (cfg_ok rfl rfl rfl) sig8a_ok (fn := Try.f62) (by kernel_rfl) (by kernel_rfl) (by kernel_rfl) fun xs K hp hk => Eq.mpr (nf62 xs K) (br_intro (fun h0 => ⟨trivial, br_intro (fun h1 => by simpa only [v62_0, v62_1, h0, h1, cond_true, cond_false] using hk) (fun h1 => by simpa only [v62_0, v62_1, h0, h1, cond_true, cond_false] using hk)⟩) (fun h0 => by simpa only [v62_0, v62_1, h0, cond_true, cond_false] using hk))

theorem okq62 : SpecOK Try.prog elTT 62 q62 :=
  spec_mono (fun args H K h => by
    unfold q62 at h
    simp only at h
    split at h
    · rename_i xs hxs
      unfold s62 fS
      simp only [hxs]
      exact ⟨h.1, h.2 _ _ rfl rfl⟩
    · exact h.elim) ok62

theorem ok94 : SpecOK Try.prog elTT 94 s94 :=
  fS_ok (cfg := cfg8 94) (cfg_ok rfl rfl rfl) sig8a_ok (fn := Try.f94) (by kernel_rfl) (by kernel_rfl) (by kernel_rfl) fun xs K hp hk => Eq.mpr (nf94 xs K) (br_intro (fun h0 => ⟨(hp h0), by simpa only [v94_0, h0, cond_true, cond_false] using hk⟩) (fun h0 => by simpa only [v94_0, h0, cond_true, cond_false] using hk))

theorem okq94 : SpecOK Try.prog elTT 94 q94 :=
  spec_mono (fun args H K h => by
    unfold q94 at h
    simp only at h
    split at h
    · rename_i xs hxs
      unfold s94 fS
      simp only [hxs]
      exact ⟨h.1, h.2 _ rfl⟩
    · exact h.elim) ok94

theorem ok83 : SpecOK Try.prog elTT 83 s83 :=
  fS_ok (cfg := cfg8 83) (cfg_ok rfl rfl rfl) sig8a_ok (fn := Try.f83) (by kernel_rfl) (by kernel_rfl) (by kernel_rfl) fun xs K hp hk => Eq.mpr (nf83 xs K) (br_intro (fun h0 => ⟨(hp h0), br_intro (fun h1 => by simpa only [v83_0, v83_1, h0, h1, cond_true, cond_false] using hk) (fun h1 => ⟨trivial, by simpa only [v83_0, v83_1, h0, h1, cond_true, cond_false] using hk⟩)⟩) (fun h0 => by simpa only [v83_0, v83_1, h0, cond_true, cond_false] using hk))

theorem okq83 : SpecOK Try.prog elTT 83 q83 :=
  spec_mono (fun args H K h => by
    unfold q83 at h
    simp only at h
    split at h
    · rename_i xs hxs
      unfold s83 fS
      simp only [hxs]
      exact ⟨h.1, h.2 _ _ rfl rfl⟩
    · exact h.elim) ok83

theorem ok98 : SpecOK Try.prog elTT 98 s98 :=
  fS_ok (cfg := cfg8 98) (cfg_ok rfl rfl rfl) sig8a_ok (fn := Try.f98) (by kernel_rfl) (by kernel_rfl) (by kernel_rfl) fun xs K hp hk => Eq.mpr (nf98 xs K) (⟨trivial, br_intro (fun h0 => by simpa only [v98_0, v98_1, v98_2, h0, cond_true, cond_false] using hk) (fun h0 => br_intro (fun h1 => by simpa only [v98_0, v98_1, v98_2, h0, h1, cond_true, cond_false] using hk) (fun h1 => br_intro (fun h2 => by simpa only [v98_0, v98_1, v98_2, h0, h1, h2, cond_true, cond_false] using hk) (fun h2 => br_intro (fun h3 => by simpa only [v98_0, v98_1, v98_2, h0, h1, h2, h3, cond_true, cond_false] using hk) (fun h3 => br_false h1 (br_intro (fun h4 => by simpa only [v98_0, v98_1, v98_2, h0, h1, h2, h3, h4, cond_true, cond_false] using hk) (fun h4 => by simpa only [v98_0, v98_1, v98_2, h0, h1, h2, h3, h4, cond_true, cond_false] using hk))))))⟩)

theorem okq98 : SpecOK Try.prog elTT 98 q98 :=
  spec_mono (fun args H K h => by
    unfold q98 at h
    simp only at h
    split at h
    · rename_i xs hxs
      unfold s98 fS
      simp only [hxs]
      exact ⟨h.1, h.2 _ _ _ rfl rfl rfl⟩
    · exact h.elim) ok98

theorem ok95 : SpecOK Try.prog elTT 95 s95 :=
  fS_ok (cfg := cfg8 95) (cfg_ok rfl rfl rfl) sig8a_ok (fn := Try.f95) (by kernel_rfl) (by kernel_rfl) (by kernel_rfl) fun xs K hp hk => Eq.mpr (nf95 xs K) (⟨trivial, by simpa only [v95_0, v95_1, v95_2, v95_3, v95_4, v95_5, v95_6, v95_7, v95_8, v95_9, v95_10, cond_true, cond_false] using hk⟩)

theorem okq95 : SpecOK Try.prog elTT 95 q95 :=
  spec_mono (fun args H K h => by
    unfold q95 at h
    simp only at h
    split at h
    · rename_i xs hxs
      unfold s95 fS
      simp only [hxs]
      exact ⟨h.1, h.2 _ _ _ _ _ _ _ _ _ _ _ rfl rfl rfl rfl rfl rfl rfl rfl rfl rfl rfl⟩
    · exact h.elim) ok95

end Go.Rx
end

section
/- Layer 8: which chunks of pages are mapped: plainly. -/
namespace Go.Rx
open Go.Proofs

/-- What is needed of a layout's numbers: how many pages, where the table is, how many words. -/
structure Lay8 (pg tb wd : Int) : Prop where
  mk ::
  hpg : 1 ≤ pg ∧ pg ≤ 256
  htb : 0 ≤ tb ∧ tb ≤ 1000
  hwd : tb + (pg + 3) / 4 ≤ wd
def L8 (ys : List Int) : Prop := Lay8 (i ys 2) (i ys 11) (i ys 22)
def thereB (pg k : Int) : Bool := decide (0 ≤ k) && decide (k < (pg + 3) / 4)
def tblI (pg tb k : Int) : Int := bif thereB pg k then tb + k else 0
def pagesI (pg k : Int) : Int := bif thereB pg k then 4 * k else 0
def pagesN (pg k : Int) : Int := bif thereB pg k then min 4 (pg - 4 * k) else 0
def chunkI (p : Int) : Int := bif decide (p < 0) then -1 else p / 4
def spanB (pg p n : Int) : Bool := decide (1 ≤ n) && (decide (0 ≤ p) && (decide (p < pg) && decide (n ≤ pg - p)))
def t94 : Spec := fS [24] (fun ys => L8 ys) (fun ys => vb (thereB (i ys 2) (i ys 23)))
def t20 : Spec := fS [23, 0] (fun ys => L8 ys) (fun ys => vi (tblI (i ys 2) (i ys 11) (i ys 23)))
def t83 : Spec := fS [24] (fun ys => L8 ys) (fun ys => .tup [vi (pagesI (i ys 2) (i ys 23)), vi (pagesN (i ys 2) (i ys 23))])
def t61 : Spec := fS [23, 0] (fun ys => L8 ys) (fun ys => .tup [vi (pagesI (i ys 2) (i ys 23)), vi (pagesN (i ys 2) (i ys 23))])
def t98 : Spec := fS [23, 0, 0] (fun ys => L8 ys) (fun ys => .tup [vi (bif spanB (i ys 2) (i ys 23) (i ys 24) then i ys 23 / 4 else 0), vi (bif spanB (i ys 2) (i ys 23) (i ys 24) then (i ys 23 + i ys 24 - 1) / 4 else 0), vb (spanB (i ys 2) (i ys 23) (i ys 24))])
def t63 : Spec := fS [0] (fun ys => i ys 0 ≤ 9223372036854775807) (fun ys => vi (chunkI (i ys 0)))
noncomputable def sig61 : FuncId → Option Spec := fun f => match f with
  | 83 => some t83
  | _ => none
noncomputable def cfg61 : Cfg := { cfgB with sigs := sig61 }

/-! Over a view. -/
def isB (cur : List Int) (pg tb k st : Int) : Bool := thereB pg k && (cur.getD (tb + k).toNat 0 == st)
def turnB (cur : List Int) (pg tb k st : Int) : Bool := thereB pg k && !((cur.getD (tb + k).toNat 0 == 1) == (st == 1))
def turnU (cur : List Int) (pg tb k st : Int) : List Int := bif turnB cur pg tb k st then cur.set (tb + k).toNat st else cur
def need8 (cur ys : List Int) : Prop := L8 ys ∧ i ys 22 ≤ (cur.length : Int)
def is8 : Spec := vS 1 [24, 0] need8 (fun cur ys => vb (isB cur (i ys 2) (i ys 11) (i ys 23) (i ys 24))) (fun cur _ => cur)
def turn8 : Spec := vS 1 [24, 0] need8 (fun cur ys => vb (turnB cur (i ys 2) (i ys 11) (i ys 23) (i ys 24))) (fun cur ys => turnU cur (i ys 2) (i ys 11) (i ys 23) (i ys 24))
def map8 : Spec := vS 0 [23, 0] need8 (fun cur ys => vb (turnB cur (i ys 2) (i ys 11) (i ys 23) 1)) (fun cur ys => turnU cur (i ys 2) (i ys 11) (i ys 23) 1)
noncomputable def sig8b : FuncId → Option Spec := fun f => match f with
  | 20 => some t20
  | 94 => some t94
  | 112 => some writeS
  | 114 => some readS
  | _ => none
noncomputable def cfg8b : Cfg := { cfgB with sigs := sig8b }
noncomputable def sig8c : FuncId → Option Spec := fun f => match f with
  | 111 => some is8
  | f => sig8b f
noncomputable def cfg8c : Cfg := { cfgB with sigs := sig8c }
noncomputable def sig8d : FuncId → Option Spec := fun f => match f with
  | 106 => some turn8
  | f => sig8c f
noncomputable def cfg8d : Cfg := { cfgB with sigs := sig8d }
end Go.Rx
end

section
/- Normal forms of the program's code (by a program of this session's; the kernel checks each). -/
namespace Go.Rx
open Go.Proofs
set_option maxRecDepth 100000
theorem nf111 (ws cur ys : List Int) (xs : List Value) (K : V → Heap → Prop) : (exF cfg8b Try.f111 (insA 1 (mkA [24, 0] 0 ys)) [.pk 0 [ws, cur] xs [.row 1], .row 0 ws true] K) = (
    ((
      (Go.Rx.Lay8 (List.getD ys 2 0) (List.getD ys 11 0) (List.getD ys 22 0))) ∧ (
      br (Go.Rx.thereB (List.getD ys 2 0) (List.getD ys 23 0))
        (
        ((
          (Go.Rx.Lay8 (List.getD ys 2 0) (List.getD ys 11 0) (List.getD ys 22 0))) ∧ (
          Req (Go.Rx.eqL ws ws && (Nat.ble (List.length xs) 2 && Go.Rx.inR (Go.Rx.tblI (List.getD ys 2 0) (List.getD ys 11 0) (List.getD ys 23 0)) (List.length ws)))
            (
            K (vb (List.getD cur (Int.toNat (Go.Rx.tblI (List.getD ys 2 0) (List.getD ys 11 0) (List.getD ys 23 0))) 0 == List.getD ys 24 0)) [.pk 0 ([ws, cur]) (xs) [.row 1], .row 0 (ws : List (Int)) Bool.true]))))
        (
        K (vb (Bool.false)) [.pk 0 ([ws, cur]) (xs) [.row 1], .row 0 (ws : List (Int)) Bool.true])))) := by
  kernel_rfl

theorem nf106 (ws cur ys : List Int) (xs : List Value) (K : V → Heap → Prop) : (exF cfg8c Try.f106 (insA 1 (mkA [24, 0] 0 ys)) [.pk 0 [ws, cur] xs [.row 1], .row 0 ws true] K) = (
    ((
      (Go.Rx.Lay8 (List.getD ys 2 0) (List.getD ys 11 0) (List.getD ys 22 0))) ∧ (
      br (!Go.Rx.thereB (List.getD ys 2 0) (List.getD ys 23 0))
        (
        K (vb (Bool.false)) [.pk 0 ([ws, cur]) (xs) [.row 1], .row 0 (ws : List (Int)) Bool.true])
        (
        ((
          ((Go.Rx.eqL ws ws && (Nat.ble (List.length xs) 2 && Nat.beq (List.length cur) (List.length ws))) = Bool.true)) ∧ (
          ((
            ((
              (Go.Rx.Lay8 (List.getD ys 2 0) (List.getD ys 11 0) (List.getD ys 22 0))) ∧ (
              (Int.NonNeg ((↑(List.length cur) : Int) - List.getD ys 22 0))))) ∧ (
            br (Go.Rx.isB cur (List.getD ys 2 0) (List.getD ys 11 0) (List.getD ys 23 0) 1 == (List.getD ys 24 0 == 1))
              (
              K (vb (Bool.false)) [.pk 0 ([ws, cur]) (xs) [.row 1], .row 0 (ws : List (Int)) Bool.true])
              (
              ((
                (Go.Rx.Lay8 (List.getD ys 2 0) (List.getD ys 11 0) (List.getD ys 22 0))) ∧ (
                Req (Go.Rx.eqL ws ws && (Nat.ble (List.length xs) 2 && Go.Rx.inR (Go.Rx.tblI (List.getD ys 2 0) (List.getD ys 11 0) (List.getD ys 23 0)) (List.length ws)))
                  (
                  K (vb (Bool.true)) [.pk 0 ([ws, List.set cur (Int.toNat (Go.Rx.tblI (List.getD ys 2 0) (List.getD ys 11 0) (List.getD ys 23 0))) (List.getD ys 24 0)]) (xs) [.row 1], .row 0 (ws : List (Int)) Bool.true])))))))))))) := by
  kernel_rfl

theorem nf99 (ws cur ys : List Int) (xs : List Value) (K : V → Heap → Prop) : (exF cfg8d Try.f99 (insA 0 (mkA [23, 0] 0 ys)) [.pk 0 [ws, cur] xs [.row 1], .row 0 ws true] K) = (
    ((
      ((Go.Rx.eqL ws ws && (Nat.ble (List.length xs) 2 && Nat.beq (List.length cur) (List.length ws))) = Bool.true)) ∧ (
      ((
        ((
          (Go.Rx.Lay8 (List.getD ys 2 0) (List.getD ys 11 0) (List.getD ys 22 0))) ∧ (
          (Int.NonNeg ((↑(List.length cur) : Int) - List.getD ys 22 0))))) ∧ (
        K (vb (Go.Rx.turnB cur (List.getD ys 2 0) (List.getD ys 11 0) (List.getD ys 23 0) 1)) [.pk 0 ([ws, Go.Rx.turnU cur (List.getD ys 2 0) (List.getD ys 11 0) (List.getD ys 23 0) 1]) (xs) [.row 1], .row 0 (ws : List (Int)) Bool.true]))))) := by
  kernel_rfl

theorem nf61 (xs : List Int) (K : V → Heap → Prop) : (exF cfg61 Try.f61 (mkA [23, 0] 0 xs) [] K) = (
    ((
      (Go.Rx.Lay8 (List.getD xs 2 0) (List.getD xs 11 0) (List.getD xs 22 0))) ∧ (
      K (.tup [vi (Go.Rx.pagesI (List.getD xs 2 0) (List.getD xs 23 0)), vi (Go.Rx.pagesN (List.getD xs 2 0) (List.getD xs 23 0))]) []))) := by
  kernel_rfl

end Go.Rx
end

section
/- Layer 8: contracts, plainly. -/
namespace Go.Rx
open Go.Proofs
attribute [local irreducible] Loop ex exF contK roundK retK at_ bodyOf mkEnv mkA

theorem fS_mono {P : Program} {elT : ET} {g : FuncId} {sh : List Nat} {pre pre' : List Int → Prop} {f f' : List Int → V} (h : ∀ xs, pre' xs → pre xs ∧ f xs = f' xs) (ok : SpecOK P elT g (fS sh pre f)) : SpecOK P elT g (fS sh pre' f') :=
  spec_mono (fun args H K ht => by
    unfold fS at ht ⊢
    simp only at ht ⊢
    split at ht
    · rename_i xs hxs
      obtain ⟨h1, h2⟩ := h xs ht.1
      exact ⟨h1, by rw [h2]; exact ht.2⟩
    · exact ht.elim) ok

theorem t94_ok : SpecOK Try.prog elTT 94 t94 := fS_mono (fun xs h => by
  obtain ⟨h1, h2, h3⟩ := h
  unfold i at h1
  refine ⟨fun _ => ⟨by show (0 : Int) ≤ xs.getD 2 0; omega, by show xs.getD 2 0 ≤ (1099511627776 : Int); omega⟩, ?_⟩
  unfold v94_0 v18_0 thereB i
  simp only [List.getD_cons_zero, List.getD_cons_succ]
  by_cases a : 0 ≤ xs.getD 23 0
  · rw [decide_eq_true (show xs.getD 23 0 ≥ 0 from a)]; rfl
  · rw [decide_eq_false (show ¬ xs.getD 23 0 ≥ 0 from a)]; rfl) ok94

theorem t20_ok : SpecOK Try.prog elTT 20 t20 := fS_mono (fun xs h => by
  obtain ⟨h1, h2, h3⟩ := h
  unfold i at h1 h2
  refine ⟨⟨by show (0 : Int) ≤ xs.getD 2 0; omega, by show xs.getD 2 0 ≤ (1099511627776 : Int); omega⟩, ?_⟩
  unfold v20_0 v18_0 tblI thereB i
  simp only [List.getD_cons_zero, List.getD_cons_succ]
  generalize xs.getD 23 0 = k at *
  generalize xs.getD 2 0 = p at *
  generalize xs.getD 11 0 = t at *
  by_cases a : k < 0
  · rw [decide_eq_true a, decide_eq_false (show ¬ 0 ≤ k by omega)]; rfl
  · rw [decide_eq_false a, decide_eq_true (show 0 ≤ k by omega)]
    by_cases b : k < (p + 3) / 4
    · rw [decide_eq_false (show ¬ k ≥ (p + 3) / 4 by omega), decide_eq_true b, wrap_id (by omega) (by omega)]; rfl
    · rw [decide_eq_true (show k ≥ (p + 3) / 4 by omega), decide_eq_false b]; rfl) ok20

theorem imin4 (x : Int) : (if x < 4 then x else 4) = min 4 x := by rw [Int.min_def]; split <;> split <;> omega

theorem t83_ok : SpecOK Try.prog elTT 83 t83 := fS_mono (fun xs h => by
  obtain ⟨h1, h2, h3⟩ := h
  unfold i at h1 h2
  refine ⟨fun _ => ⟨by show (0 : Int) ≤ xs.getD 2 0; omega, by show xs.getD 2 0 ≤ (1099511627776 : Int); omega⟩, ?_⟩
  unfold v83_0 v83_1 v18_0 v14_2 pagesI pagesN thereB i
  simp only [List.getD_cons_zero, List.getD_cons_succ]
  generalize xs.getD 23 0 = k at *
  generalize xs.getD 2 0 = p at *
  by_cases a : 0 ≤ k
  · rw [decide_eq_true (show k ≥ 0 from a)]
    by_cases b : k < (p + 3) / 4
    · rw [decide_eq_true b, wrap_id (x := k * 4) (by omega) (by omega), wrap_id (by omega) (by omega), imin4, Int.mul_comm k 4]; rfl
    · rw [decide_eq_false b]; rfl
  · rw [decide_eq_false (show ¬ k ≥ 0 from a)]; rfl) ok83

theorem t61_ok : SpecOK Try.prog elTT 61 t61 :=
  fS_ok (cfg := cfg61) (cfg_ok rfl rfl rfl) (by
    intro g s hs
    change sig61 g = some s at hs
    unfold sig61 at hs
    split at hs
    · injection hs with hs; subst hs; exact t83_ok
    · cases hs) (fn := Try.f61) (by kernel_rfl) (by kernel_rfl) (by kernel_rfl) fun xs K hp hk => Eq.mpr (nf61 xs K) ⟨hp, hk⟩

theorem t63_ok : SpecOK Try.prog elTT 63 t63 := fS_mono (fun xs h => by
  refine ⟨trivial, ?_⟩
  unfold i at h
  unfold v63_0 chunkI i
  by_cases a : xs.getD 0 0 < 0
  · rw [decide_eq_true a]; rfl
  · rw [decide_eq_false a, Int.tdiv_eq_ediv_of_nonneg (by omega), wrap_id (by omega) (by omega)]) ok63

theorem t98_ok : SpecOK Try.prog elTT 98 t98 := fS_mono (fun xs h => by
  obtain ⟨h1, h2, h3⟩ := h
  unfold i at h1 h2
  refine ⟨trivial, ?_⟩
  unfold v98_0 v98_1 v98_2 v14_2 spanB i
  simp only [List.getD_cons_zero, List.getD_cons_succ]
  generalize xs.getD 24 0 = n at *
  generalize xs.getD 23 0 = k at *
  generalize xs.getD 2 0 = p at *
  by_cases a : n < 1
  · rw [decide_eq_true a, decide_eq_false (show ¬ 1 ≤ n by omega)]; rfl
  rw [decide_eq_false a, decide_eq_true (show 1 ≤ n by omega)]
  by_cases b : k < 0
  · rw [decide_eq_true b, decide_eq_false (show ¬ 0 ≤ k by omega)]; rfl
  rw [decide_eq_false b, decide_eq_true (show 0 ≤ k by omega)]
  by_cases c : k < p
  · rw [decide_eq_false (show ¬ k ≥ p by omega), decide_eq_true c, wrap_id (x := p - k) (by omega) (by omega)]
    by_cases d : n ≤ p - k
    · rw [decide_eq_false (show ¬ n > p - k by omega), decide_eq_true d, wrap_id (x := k + n) (by omega) (by omega), wrap_id (x := k + n - 1) (by omega) (by omega), decide_eq_false (show ¬ k + n - 1 < 0 by omega),
        Int.tdiv_eq_ediv_of_nonneg (by omega), Int.tdiv_eq_ediv_of_nonneg (by omega), wrap_id (x := k / 4) (by omega) (by omega), wrap_id (x := (k + n - 1) / 4) (by omega) (by omega)]
      rfl
    · rw [decide_eq_true (show n > p - k by omega), decide_eq_false d]; rfl
  · rw [decide_eq_true (show k ≥ p by omega), decide_eq_false c]; rfl) ok98

theorem there_of {pg k : Int} (h : thereB pg k = true) : 0 ≤ k ∧ k < (pg + 3) / 4 := by
  unfold thereB at h; simpa using h
theorem tbl_of {pg tb k : Int} (h : thereB pg k = true) : tblI pg tb k = tb + k := by unfold tblI; rw [h]; rfl
theorem tbl_in {pg tb wd k : Int} {ws cur : List Int} (L : Lay8 pg tb wd) (h : thereB pg k = true) (hl : cur.length = ws.length) (hw : wd ≤ (cur.length : Int)) : inR (tblI pg tb k) ws.length = true := by
  obtain ⟨h1, h2⟩ := there_of h
  have := L.htb; have := L.hwd
  rw [tbl_of h]
  exact inR_int (by omega) (by omega)

theorem sig8b_ok : ∀ g s, sig8b g = some s → SpecOK Try.prog elTT g s := by
  intro g s hs
  unfold sig8b at hs
  split at hs
  · injection hs with hs; subst hs; exact t20_ok
  · injection hs with hs; subst hs; exact t94_ok
  · injection hs with hs; subst hs; exact write_ok
  · injection hs with hs; subst hs; exact read_ok
  · cases hs

theorem is8_ok : SpecOK Try.prog elTT 111 is8 :=
  vS_ok (cfg := cfg8b) (cfg_ok rfl rfl rfl) sig8b_ok (fn := Try.f111) (by kernel_rfl) (by kernel_rfl) (by kernel_rfl) fun ws cur ys xs K hx hl hp hk => Eq.mpr (nf111 ws cur ys xs K) (by
    refine ⟨hp.1, ?_⟩
    unfold isB at hk
    refine br_intro (fun h1 => ⟨hp.1, Req_intro (rw_req hx (tbl_in hp.1 h1 hl hp.2)) ?_⟩) (fun h1 => ?_)
    · rw [tbl_of h1]
      unfold i at hk
      rw [h1] at hk
      exact hk
    · unfold i at hk
      rw [h1] at hk
      exact hk)

theorem sig8c_ok : ∀ g s, sig8c g = some s → SpecOK Try.prog elTT g s := by
  intro g s hs
  unfold sig8c at hs
  split at hs
  · injection hs with hs; subst hs; exact is8_ok
  · exact sig8b_ok _ _ hs

theorem turn8_ok : SpecOK Try.prog elTT 106 turn8 :=
  vS_ok (cfg := cfg8c) (cfg_ok rfl rfl rfl) sig8c_ok (fn := Try.f106) (by kernel_rfl) (by kernel_rfl) (by kernel_rfl) fun ws cur ys xs K hx hl hp hk => Eq.mpr (nf106 ws cur ys xs K) (by
    refine ⟨hp.1, ?_⟩
    unfold turnU turnB i at hk
    unfold isB
    refine br_intro (fun h1 => ?_) (fun h1 => ⟨vS_req hx hl, ⟨hp.1, hp.2⟩, ?_⟩)
    · have h1 : thereB (ys.getD 2 0) (ys.getD 23 0) = false := by simpa using h1
      rw [h1] at hk
      exact hk
    · have h1 : thereB (ys.getD 2 0) (ys.getD 23 0) = true := by simpa using h1
      rw [h1] at hk ⊢
      simp only [Bool.true_and] at hk ⊢
      refine br_intro (fun h2 => ?_) (fun h2 => ⟨hp.1, Req_intro (rw_req hx (tbl_in hp.1 h1 hl hp.2)) ?_⟩)
      · rw [h2] at hk
        exact hk
      · rw [h2] at hk
        rw [tbl_of h1]
        exact hk)

theorem sig8d_ok : ∀ g s, sig8d g = some s → SpecOK Try.prog elTT g s := by
  intro g s hs
  unfold sig8d at hs
  split at hs
  · injection hs with hs; subst hs; exact turn8_ok
  · exact sig8c_ok _ _ hs

theorem map8_ok : SpecOK Try.prog elTT 99 map8 :=
  vS_ok (cfg := cfg8d) (cfg_ok rfl rfl rfl) sig8d_ok (fn := Try.f99) (by kernel_rfl) (by kernel_rfl) (by kernel_rfl) fun ws cur ys xs K hx hl hp hk => Eq.mpr (nf99 ws cur ys xs K) ⟨vS_req hx hl, ⟨hp.1, hp.2⟩, hk⟩
end Go.Rx
end

section
/- Layer 8: Ensure. -/
namespace Go.Rx
open Go.Proofs

/-- So many chunks, from one on, are turned to be mapped: how many pages were turned, and the words then. -/
def ensG (pg tb : Int) (cur : List Int) (a : Int) : Nat → Int × List Int
  | 0 => (0, cur)
  | n + 1 => (bif turnB (ensG pg tb cur a n).2 pg tb (a + n) 1 then (ensG pg tb cur a n).1 + pagesN pg (a + n) else (ensG pg tb cur a n).1, turnU (ensG pg tb cur a n).2 pg tb (a + n) 1)
def ensK (pg p n : Int) : Nat := bif spanB pg p n then ((p + n - 1) / 4 - p / 4 + 1).toNat else 0
def ensM (cur : List Int) (pg tb p n : Int) : Int × List Int := ensG pg tb cur (p / 4) (ensK pg p n)
def ens8 : Spec := vS 0 [23, 0, 0] need8 (fun cur ys => vi (ensM cur (i ys 2) (i ys 11) (i ys 23) (i ys 24)).1) (fun cur ys => (ensM cur (i ys 2) (i ys 11) (i ys 23) (i ys 24)).2)
noncomputable def sig88 : FuncId → Option Spec := fun f => match f with
  | 61 => some t61
  | 98 => some t98
  | 99 => some map8
  | _ => none
noncomputable def cfg88 : Cfg := { cfgB with
  sigs := sig88
  keep := fun r => match r with | 4 => some [(0, none), (5, none), (10, none), (11, none), (12, none), (13, none)] | _ => none
  keepB := fun b => match b with | 0 => some [(12, none)] | _ => none }
end Go.Rx
end

section
/- Normal forms of the program's code (by a program of this session's; the kernel checks each). -/
namespace Go.Rx
open Go.Proofs
set_option maxRecDepth 100000
theorem nf88 (ws cur ys : List Int) (xs : List Value) (K : V → Heap → Prop) : (exF cfg88 Try.f88 (insA 0 (mkA [23, 0, 0] 0 ys)) [.pk 0 [ws, cur] xs [.row 1], .row 0 ws true] K) = (
    ((
      (Go.Rx.Lay8 (List.getD ys 2 0) (List.getD ys 11 0) (List.getD ys 22 0))) ∧ (
      Loop cfg88 (⟨47, 2⟩ : Cx) (at_ (bodyOf Try.f88) [1, 1, 1, 0, 1, 0, 0])  (mkEnv [(0, .ptr 0 0), (5, .ptr 2 0), (10, vi (bif Go.Rx.spanB (List.getD ys (2 : Nat) (0 : Int)) (List.getD ys (23 : Nat) (0 : Int)) (List.getD ys (24 : Nat) (0 : Int)) then (List.getD ys (23 : Nat) (0 : Int) + List.getD ys (24 : Nat) (0 : Int) - (1 : Int)) / (4 : Int) else (0 : Int))), (11, vb (Go.Rx.spanB (List.getD ys 2 0) (List.getD ys 23 0) (List.getD ys 24 0))), (12, vi (0)), (13, vi (bif Go.Rx.spanB (List.getD ys (2 : Nat) (0 : Int)) (List.getD ys (23 : Nat) (0 : Int)) (List.getD ys (24 : Nat) (0 : Int)) then List.getD ys (23 : Nat) (0 : Int) / (4 : Int) else (0 : Int)))]) [.pk 0 ([ws, cur]) (xs) [.row 1], .row 0 (ws : List (Int)) Bool.true, .cells 28 [vi (List.getD ys 0 0), vi (List.getD ys 1 0), vi (List.getD ys 2 0), vi (List.getD ys 3 0), vi (List.getD ys 4 0), vi (List.getD ys 5 0), vi (List.getD ys 6 0), vi (List.getD ys 7 0), vi (List.getD ys 8 0), vi (List.getD ys 9 0), vi (List.getD ys 10 0), vi (List.getD ys 11 0), vi (List.getD ys 12 0), vi (List.getD ys 13 0), vi (List.getD ys 14 0), vi (List.getD ys 15 0), vi (List.getD ys 16 0), vi (List.getD ys 17 0), vi (List.getD ys 18 0), vi (List.getD ys 19 0), vi (List.getD ys 20 0), vi (List.getD ys 21 0), vi (List.getD ys 22 0)]] (contK cfg88 (⟨47, 2⟩ : Cx) (bodyOf Try.f88) [1, 1, 1, 0, 1, 0] (retK cfg88 Try.f88 2 K))))) := by
  kernel_rfl

theorem nf88r (ws cur ys : List Int) (xs : List Value) (last turned k : Int) (ok : Bool) (K : V → Heap → Prop) (J : Env → Heap → Prop) : (ex cfg88 (⟨47, 2⟩ : Cx) (at_ (bodyOf Try.f88) [1, 1, 1, 0, 1, 0, 0]) (mkEnv [(0, .ptr 0 0), (5, .ptr 2 0), (10, vi last), (11, vb ok), (12, vi turned), (13, vi k)]) [.pk 0 [ws, cur] xs [.row 1], .row 0 ws true, .cells 28 (icV 23 0 ys)] (roundK cfg88 (⟨47, 2⟩ : Cx) (at_ (bodyOf Try.f88) [1, 1, 1, 0, 1, 0, 0]) (contK cfg88 (⟨47, 2⟩ : Cx) (bodyOf Try.f88) [1, 1, 1, 0, 1, 0] (retK cfg88 Try.f88 2 K)) J)) = (
    br (ok)
      (
      br (Decidable.decide (k ≤ last))
        (
        ((
          ((Go.Rx.eqL ws ws && (Nat.ble (List.length xs) 2 && Nat.beq (List.length cur) (List.length ws))) = Bool.true)) ∧ (
          ((
            ((
              (Go.Rx.Lay8 (List.getD ys 2 0) (List.getD ys 11 0) (List.getD ys 22 0))) ∧ (
              (Int.NonNeg ((↑(List.length cur) : Int) - List.getD ys 22 0))))) ∧ (
            br (Go.Rx.turnB cur (List.getD ys 2 0) (List.getD ys 11 0) k 1)
              (
              ((
                (Go.Rx.Lay8 (List.getD ys 2 0) (List.getD ys 11 0) (List.getD ys 22 0))) ∧ (
                J (mkEnv [(0, .ptr 0 0), (5, .ptr 2 0), (10, vi (last)), (11, vb (ok)), (12, vi (Go.IntKind.wrap Go.IntKind.i64 (turned + Go.Rx.pagesN (List.getD ys 2 0) k))), (13, vi (Go.IntKind.wrap Go.IntKind.i64 (k + 1)))]) [.pk 0 ([ws, Go.Rx.turnU cur (List.getD ys 2 0) (List.getD ys 11 0) k 1]) (xs) [.row 1], .row 0 (ws : List (Int)) Bool.true, .cells 28 [vi (List.getD ys 0 0), vi (List.getD ys 1 0), vi (List.getD ys 2 0), vi (List.getD ys 3 0), vi (List.getD ys 4 0), vi (List.getD ys 5 0), vi (List.getD ys 6 0), vi (List.getD ys 7 0), vi (List.getD ys 8 0), vi (List.getD ys 9 0), vi (List.getD ys 10 0), vi (List.getD ys 11 0), vi (List.getD ys 12 0), vi (List.getD ys 13 0), vi (List.getD ys 14 0), vi (List.getD ys 15 0), vi (List.getD ys 16 0), vi (List.getD ys 17 0), vi (List.getD ys 18 0), vi (List.getD ys 19 0), vi (List.getD ys 20 0), vi (List.getD ys 21 0), vi (List.getD ys 22 0)]])))
              (
              J (mkEnv [(0, .ptr 0 0), (5, .ptr 2 0), (10, vi (last)), (11, vb (ok)), (12, vi (turned)), (13, vi (Go.IntKind.wrap Go.IntKind.i64 (k + 1)))]) [.pk 0 ([ws, Go.Rx.turnU cur (List.getD ys 2 0) (List.getD ys 11 0) k 1]) (xs) [.row 1], .row 0 (ws : List (Int)) Bool.true, .cells 28 [vi (List.getD ys 0 0), vi (List.getD ys 1 0), vi (List.getD ys 2 0), vi (List.getD ys 3 0), vi (List.getD ys 4 0), vi (List.getD ys 5 0), vi (List.getD ys 6 0), vi (List.getD ys 7 0), vi (List.getD ys 8 0), vi (List.getD ys 9 0), vi (List.getD ys 10 0), vi (List.getD ys 11 0), vi (List.getD ys 12 0), vi (List.getD ys 13 0), vi (List.getD ys 14 0), vi (List.getD ys 15 0), vi (List.getD ys 16 0), vi (List.getD ys 17 0), vi (List.getD ys 18 0), vi (List.getD ys 19 0), vi (List.getD ys 20 0), vi (List.getD ys 21 0), vi (List.getD ys 22 0)]]))))))
        (
        K (vi (turned)) [.pk 0 ([ws, cur]) (xs) [.row 1], .row 0 (ws : List (Int)) Bool.true]))
      (
      K (vi (turned)) [.pk 0 ([ws, cur]) (xs) [.row 1], .row 0 (ws : List (Int)) Bool.true])) := by
  kernel_rfl

end Go.Rx
end

section
/- Layer 8: Ensure. -/
namespace Go.Rx
open Go.Proofs
attribute [local irreducible] Loop ex exF contK roundK retK at_ bodyOf mkEnv mkA

theorem turnU_len (cur : List Int) (pg tb k st : Int) : (turnU cur pg tb k st).length = cur.length := by
  unfold turnU; cases turnB cur pg tb k st <;> simp

theorem ensG_len (pg tb : Int) (cur : List Int) (a : Int) : ∀ n, (ensG pg tb cur a n).2.length = cur.length
  | 0 => rfl
  | n + 1 => by rw [ensG, turnU_len, ensG_len]

theorem pagesN_le (pg k : Int) : 0 ≤ pagesN pg k ∧ pagesN pg k ≤ 4 := by
  unfold pagesN
  cases h : thereB pg k with
  | false => exact ⟨Int.le_refl _, by show (0 : Int) ≤ 4; omega⟩
  | true =>
    unfold thereB at h
    simp at h
    show 0 ≤ min 4 (pg - 4 * k) ∧ min 4 (pg - 4 * k) ≤ 4
    omega

theorem ensG_le (pg tb : Int) (cur : List Int) (a : Int) : ∀ n : Nat, 0 ≤ (ensG pg tb cur a n).1 ∧ (ensG pg tb cur a n).1 ≤ 4 * (n : Int)
  | 0 => ⟨Int.le_refl _, by show (0 : Int) ≤ 4 * 0; omega⟩
  | n + 1 => by
    have h1 := ensG_le pg tb cur a n
    have h2 := pagesN_le pg (a + n)
    simp only [ensG]
    cases turnB (ensG pg tb cur a n).2 pg tb (a + n) 1 with
    | false => exact ⟨h1.1, by show (ensG pg tb cur a n).1 ≤ _; omega⟩
    | true => exact ⟨by show 0 ≤ (ensG pg tb cur a n).1 + _; omega, by show (ensG pg tb cur a n).1 + _ ≤ _; omega⟩

theorem span_of {pg p n : Int} (h : spanB pg p n = true) : 1 ≤ n ∧ 0 ≤ p ∧ p < pg ∧ n ≤ pg - p := by
  unfold spanB at h; simpa using h

theorem sig88_ok : ∀ g s, sig88 g = some s → SpecOK Try.prog elTT g s := by
  intro g s hs
  unfold sig88 at hs
  split at hs
  · injection hs with hs; subst hs; exact t61_ok
  · injection hs with hs; subst hs; exact t98_ok
  · injection hs with hs; subst hs; exact map8_ok
  · cases hs

theorem ens8_ok : SpecOK Try.prog elTT 88 ens8 :=
  vS_ok (cfg := cfg88) (cfg_ok rfl rfl rfl) sig88_ok (fn := Try.f88) (by kernel_rfl) (by kernel_rfl) (by kernel_rfl) fun ws cur ys xs K hx hl hp hk => Eq.mpr (nf88 ws cur ys xs K) (by
    obtain ⟨L, hw⟩ := hp
    refine ⟨L, ?_⟩
    have L' := L
    obtain ⟨h1, h2, h3⟩ := L
    unfold ensM at hk
    unfold i at hk h1 h2 h3 hw
    have L : Lay8 (ys.getD 2 0) (ys.getD 11 0) (ys.getD 22 0) := L'
    cases hsp : spanB (ys.getD 2 0) (ys.getD 23 0) (ys.getD 24 0) with
    | false =>
      have hm : ensK (ys.getD 2 0) (ys.getD 23 0) (ys.getD 24 0) = 0 := by unfold ensK; rw [hsp]; rfl
      rw [hm] at hk
      refine loop_ind (σ := Unit) (fun _ => mkEnv [(0, .ptr 0 0), (5, .ptr 2 0), (10, vi 0), (11, vb false), (12, vi 0), (13, vi 0)]) (fun _ => [.pk 0 [ws, cur] xs [.row 1], .row 0 ws true, .cells 28 (icV 23 0 ys)]) (fun _ => True) (fun _ => 0) ?_ () trivial
      intro _ _ J hJ
      exact Eq.mpr (nf88r ws cur ys xs 0 0 0 false K J) hk
    | true =>
      obtain ⟨s1, s2, s3, s4⟩ := span_of hsp
      have hm : ensK (ys.getD 2 0) (ys.getD 23 0) (ys.getD 24 0) = ((ys.getD 23 0 + ys.getD 24 0 - 1) / 4 - ys.getD 23 0 / 4 + 1).toNat := by unfold ensK; rw [hsp]; rfl
      generalize ensK (ys.getD 2 0) (ys.getD 23 0) (ys.getD 24 0) = m at hk hm
      generalize hg : ensG (ys.getD 2 0) (ys.getD 11 0) cur (ys.getD 23 0 / 4) = G at hk
      have hGlen : ∀ n, (G n).2.length = ws.length := fun n => by rw [← hg, ensG_len, hl]
      have hGle : ∀ n : Nat, 0 ≤ (G n).1 ∧ (G n).1 ≤ 4 * (n : Int) := fun n => by rw [← hg]; exact ensG_le _ _ _ _ n
      have hGs : ∀ n : Nat, G (n + 1) = (bif turnB (G n).2 (ys.getD 2 0) (ys.getD 11 0) (ys.getD 23 0 / 4 + n) 1 then (G n).1 + pagesN (ys.getD 2 0) (ys.getD 23 0 / 4 + n) else (G n).1, turnU (G n).2 (ys.getD 2 0) (ys.getD 11 0) (ys.getD 23 0 / 4 + n) 1) := fun n => by rw [← hg]; rfl
      have hG0 : G 0 = (0, cur) := by rw [← hg]; rfl
      refine Eq.mp (congrArg (fun (q : Int × List Int) => Loop cfg88 (⟨47, 2⟩ : Cx) (at_ (bodyOf Try.f88) [1, 1, 1, 0, 1, 0, 0]) (mkEnv [(0, .ptr 0 0), (5, .ptr 2 0), (10, vi ((ys.getD 23 0 + ys.getD 24 0 - 1) / 4)), (11, vb true), (12, vi q.1), (13, vi (ys.getD 23 0 / 4 + (0 : Nat)))]) [.pk 0 [ws, q.2] xs [.row 1], .row 0 ws true, .cells 28 (icV 23 0 ys)] (contK cfg88 (⟨47, 2⟩ : Cx) (bodyOf Try.f88) [1, 1, 1, 0, 1, 0] (retK cfg88 Try.f88 2 K))) hG0) ?_ |> fun h => by
        have e0 : ys.getD 23 0 / 4 + ((0 : Nat) : Int) = ys.getD 23 0 / 4 := by omega
        rw [e0] at h
        exact h
      refine loop_ind (σ := Nat) (fun n => mkEnv [(0, .ptr 0 0), (5, .ptr 2 0), (10, vi ((ys.getD 23 0 + ys.getD 24 0 - 1) / 4)), (11, vb true), (12, vi (G n).1), (13, vi (ys.getD 23 0 / 4 + n))]) (fun n => [.pk 0 [ws, (G n).2] xs [.row 1], .row 0 ws true, .cells 28 (icV 23 0 ys)]) (fun n => n ≤ m) (fun n => m - n) ?_ 0 (Nat.zero_le _)
      intro n hn J hJ
      have hle := hGle n
      refine Eq.mpr (nf88r ws (G n).2 ys xs _ _ _ true K J) (br_true rfl (br_intro (fun hb => ?_) (fun hb => ?_)))
      · have hb := of_decide_eq_true hb
        have hlt : n < m := by omega
        have hw' := wrap_id (x := ys.getD 23 0 / 4 + n + 1) (by omega) (by omega)
        have hnx := hJ (n + 1) hlt (by omega)
        rw [hGs n] at hnx
        have e1 : ys.getD 23 0 / 4 + ((n + 1 : Nat) : Int) = ys.getD 23 0 / 4 + n + 1 := by omega
        rw [e1] at hnx
        refine ⟨vS_req hx (hGlen n), ⟨L, by rw [hGlen n, ← hl]; exact hw⟩, br_intro (fun hc => ⟨L, ?_⟩) (fun hc => ?_)⟩
        · have hpn := pagesN_le (ys.getD 2 0) (ys.getD 23 0 / 4 + n)
          rw [hw', wrap_id (x := (G n).1 + _) (by omega) (by omega)]
          rw [hc] at hnx
          exact hnx
        · rw [hw']
          rw [hc] at hnx
          exact hnx
      · have hb := of_decide_eq_false hb
        have e : n = m := by omega
        subst e
        exact hk)
end Go.Rx
end

section
/- view.Do, for any program over a view. -/
namespace Go.Rx
open Go.Proofs

/-! A view's run, for any program over a view. -/
noncomputable def sigOver : FuncId → Option Spec := fun f => match f with
  | 108 => some (inlS cfgB Try.f108)
  | _ => none
noncomputable def cfg107 : Cfg := { cfgB with sigs := sigOver, plan := fun r => match r with | 0 => some (List.range 4, 2) | _ => none }
def opsOf0 (f : Func) : Array Oper := match f.body with
  | some (.region _ ops _) => ops
  | _ => #[]
noncomputable def f107r : Func := { Try.f107 with body := some (.region 0 ((opsOf0 Try.f107).map noRecO) true) }
noncomputable def overX : Spec := ⟨fun args H K => exF cfg107 f107r args H K, false⟩
noncomputable def sdRun : FuncId → Option Spec := fun f => match f with
  | 107 => some overX
  | _ => none
noncomputable def cfgRun (g : FuncId) (s : Spec) : Cfg := { cfgB with sigs := fun f => bif Nat.beq f g then some (packS 97 s) else none }
noncomputable def runX (g : FuncId) (s : Spec) : Spec := ⟨fun args H K => exFD (cfgRun g s) sdRun Try.f104 args H K, false⟩
noncomputable def sigAll (g : FuncId) (s : Spec) : FuncId → Option Spec := fun f => match f with
  | 103 => some newS
  | 104 => some (runX g s)
  | 105 => some pairsS
  | _ => none
noncomputable def cfgAll (g : FuncId) (s : Spec) : Cfg := { cfgB with sigs := sigAll g s }
noncomputable def sigDo (g : FuncId) (s : Spec) : FuncId → Option Spec := fun f => match f with
  | 96 => some (inlS (cfgAll g s) Try.f96)
  | _ => none
noncomputable def cfgDo (g : FuncId) (s : Spec) (k : List (Nat × Option Nat)) : Cfg := { cfgB with
  sigs := sigDo g s
  keep := fun r => match r with | 9 => some k | _ => none
  keepB := fun b => match b with | 0 => some [(0, none), (7, none), (10, none)] | _ => none
  plan := fun r => match r with | 15 => some (List.range 8, 0) | _ => none }


end Go.Rx
end

section
/- view.Do, for any program over a view: the contracts that it stands on; what is written at the end. -/
namespace Go.Rx
open Go.Proofs
attribute [local irreducible] Loop ex exF contK roundK retK at_ bodyOf mkEnv mkA

theorem sigOver_ok : ∀ g s, sigOver g = some s → SpecOK Try.prog elTT g s := by
  intro g s hs
  unfold sigOver at hs
  split at hs
  · injection hs with hs; subst hs; exact inlS_ok (cfg := cfgB) (cfg_ok rfl rfl rfl) (nosig rfl) (fn := Try.f108) (by kernel_rfl) (by kernel_rfl) (by kernel_rfl)
  · cases hs

theorem overX_ok : SpecDOK Try.prog elTT 107 overX :=
  specD_of_exF_rec (cfg := cfg107) (cfg_ok rfl rfl rfl) sigOver_ok (fn := Try.f107) (by kernel_rfl) (by kernel_rfl) (id := 0) (ops := opsOf0 Try.f107) (by kernel_rfl) (plan := List.range 4) (kd := 2) rfl rfl fun _ _ _ h => h

theorem sdRun_ok : ∀ g s, sdRun g = some s → SpecDOK Try.prog elTT g s := by
  intro g s hs
  unfold sdRun at hs
  split at hs
  · injection hs with hs; subst hs; exact overX_ok
  · cases hs

theorem runX_ok {g : FuncId} {s : Spec} (h : SpecOK Try.prog elTT g s) : SpecOK Try.prog elTT 104 (runX g s) :=
  spec_of_exFD (cfg := cfgRun g s) (cfg_ok rfl rfl rfl) (fun f t hs => by
    change (bif Nat.beq f g then some (packS 97 s) else none) = some t at hs
    cases hb : Nat.beq f g with
    | false => rw [hb] at hs; cases hs
    | true =>
      rw [hb] at hs
      have := Nat.eq_of_beq_eq_true hb
      subst this
      injection hs with hs; subst hs
      exact pack_ok (cfg := cfgB) absE h) sdRun_ok (fn := Try.f104) (by kernel_rfl) (by kernel_rfl) (by kernel_rfl) fun _ _ _ h => h

theorem sigAll_ok {g : FuncId} {s : Spec} (h : SpecOK Try.prog elTT g s) : ∀ f t, sigAll g s f = some t → SpecOK Try.prog elTT f t := by
  intro f t hs
  unfold sigAll at hs
  split at hs
  · exact (Option.some.inj hs) ▸ new_ok
  · exact (Option.some.inj hs) ▸ runX_ok h
  · exact (Option.some.inj hs) ▸ pairs_ok
  · cases hs

theorem sigDo_ok {g : FuncId} {s : Spec} (h : SpecOK Try.prog elTT g s) : ∀ f t, sigDo g s f = some t → SpecOK Try.prog elTT f t := by
  intro f t hs
  unfold sigDo at hs
  split at hs
  · refine (Option.some.inj hs) ▸ ?_
    exact inlS_ok (cfg := cfgAll g s) (cfg_ok rfl rfl rfl) (sigAll_ok h) (fn := Try.f96) (by kernel_rfl) (by kernel_rfl) (by kernel_rfl)
  · cases hs

/-- The words, as far as what was written is put in. -/
def nowN (ws : List Int) (its : List (List Int)) : Nat → List Int
  | 0 => ws
  | n + 1 => (nowN ws its n).set (prOf (its.getD n [])).Addr.toNat (prOf (its.getD n [])).Val

theorem nowN_len (ws : List Int) (its : List (List Int)) : ∀ n, (nowN ws its n).length = ws.length
  | 0 => rfl
  | n + 1 => by rw [nowN, List.length_set, nowN_len]

theorem nowN_get {ws : List Int} {its : List (List Int)} (hs : its.Pairwise (fun x y => keyOf x < keyOf y)) (hb : ∀ e ∈ its, 0 ≤ keyOf e ∧ keyOf e < (ws.length : Int)) {j : Nat} (hj : j < ws.length) :
    ∀ n, n ≤ its.length → (nowN ws its n).getD j 0 = (lookI (its.take n) j).getD (ws.getD j 0)
  | 0, _ => rfl
  | n + 1, hn => by
    have hn' : n < its.length := by omega
    have ih := nowN_get hs hb hj n (by omega)
    have hg : its.getD n [] = its[n] := by simp [List.getD, List.getElem?_eq_getElem hn']
    have hk := hb its[n] (List.getElem_mem hn')
    rw [List.take_succ_eq_append_getElem hn', lookI_append]
    simp only [nowN, hg]
    show ((nowN ws its n).set (keyOf its[n]).toNat (valOf its[n])).getD j 0 = _
    by_cases e : keyOf its[n] = (j : Int)
    · have h1 : (keyOf its[n]).toNat = j := by omega
      rw [h1]
      have h2 : lookI (its.take n) (j : Int) = none := lookI_none (fun y hy => by
        obtain ⟨i, hi, he⟩ := List.mem_take_iff_getElem.1 hy
        have h3 := List.pairwise_iff_getElem.1 hs i n (by omega) hn' (by omega)
        rw [he] at h3
        omega)
      rw [h2]
      simp only [lookI, if_pos e, Option.none_or, Option.getD_some]
      simp [List.getD, List.getElem?_set, nowN_len, hj]
    · have h1 : (keyOf its[n]).toNat ≠ j := by omega
      simp only [lookI, if_neg e, Option.or_none]
      rw [← ih, List.getD, List.getElem?_set_ne h1]
      rfl

theorem nowN_all {ws cur : List Int} {m : Int → Option Int} {nd : List Pr} {its : List (List Int)} (h : ViewOK ws cur m nd its) : nowN ws its its.length = cur := by
  apply List.ext_getElem?
  intro j
  by_cases hj : j < ws.length
  · have h1 := nowN_get h.sorted h.keys hj its.length (Nat.le_refl _)
    rw [List.take_length] at h1
    have h2 := h.cur j hj
    rw [← h2] at h1
    have l1 : j < (nowN ws its its.length).length := by rw [nowN_len]; exact hj
    have l2 : j < cur.length := by rw [h.len]; exact hj
    simp only [List.getD, List.getElem?_eq_getElem l1, List.getElem?_eq_getElem l2, Option.getD_some] at h1
    rw [List.getElem?_eq_getElem l1, List.getElem?_eq_getElem l2, h1]
  · rw [List.getElem?_eq_none (by rw [nowN_len]; omega), List.getElem?_eq_none (by rw [h.len]; omega)]

theorem prs_get {its : List (List Int)} {n : Nat} (h : n < its.length) : (its.map prOf).getD n ⟨0, 0⟩ = prOf (its.getD n []) := by
  simp [List.getD, h]

theorem pr_in {ws cur : List Int} {m : Int → Option Int} {nd : List Pr} {its : List (List Int)} (h : ViewOK ws cur m nd its) {n : Nat} (hn : n < its.length) : 0 ≤ (prOf (its.getD n [])).Addr ∧ (prOf (its.getD n [])).Addr < (ws.length : Int) := by
  have hg : its.getD n [] = its[n] := by simp [List.getD, List.getElem?_eq_getElem hn]
  rw [hg]
  exact h.keys _ (List.getElem_mem hn)
end Go.Rx
end

section
/- view.Do of the example's program. -/
namespace Go.Rx
open Go.Proofs

/-- The example's program: Ensure(3, 2). -/
def cl87 (ys : List Int) : Spec := ⟨fun args H K => match args, H with
  | [.ptr 0 0, .ptr 1 0, .ptr 2 0], [.pk 0 [ws, cur] xs [.row 3], .cells U1 lv, .cells U2 [.ext (.int .i64 _)], .row 0 l true] =>
    (eqL l ws && (Nat.ble xs.length 2 && Nat.beq cur.length ws.length)) = true ∧ lv = icV 23 0 ys ∧ need8 cur ys ∧
      K (.tup []) [.pk 0 [ws, (ensM cur (i ys 2) (i ys 11) 3 2).2] xs [.row 3], .cells U1 lv, .cells U2 [vi (ensM cur (i ys 2) (i ys 11) 3 2).1], .row 0 l true]
  | _, _ => False, false⟩
noncomputable def sig87 : FuncId → Option Spec := fun f => match f with
  | 88 => some ens8
  | _ => none
noncomputable def cfg87 : Cfg := { cfgB with sigs := sig87, plan := fun r => match r with | 0 => some (List.range 4, 2) | _ => none }
/-- What view.Do tells of it. -/
def do87 (ys : List Int) : Spec := ⟨fun args H K => match args, H with
  | [.row 0, .fn 87 [.ptr 1 0, .ptr 2 0]], [.row 0 ws true, .cells U1 lv, .cells U2 [.ext (.int .i64 _)]] =>
    Nat.ble ws.length 1048576 = true ∧ lv = icV 23 0 ys ∧ need8 ws ys ∧
      ∀ nd : List Pr, K (.tup [.row 3, .row 4, vi 0]) [.row 0 ws true, .cells U1 lv, .cells U2 [vi (ensM ws (i ys 2) (i ys 11) 3 2).1], .row 0 (ensM ws (i ys 2) (i ys 11) 3 2).2 false, .row 2 nd false]
  | _, _ => False, true⟩
noncomputable def cfg86 (ys : List Int) : Cfg := cfgDo 87 (cl87 ys) [(0, none), (7, none), (10, none), (31, none), (32, none), (33, none)]
end Go.Rx
end

section
/- Normal forms of the program's code (by a program of this session's; the kernel checks each). -/
namespace Go.Rx
open Go.Proofs
set_option maxRecDepth 100000
theorem nf87 (ws cur ys : List Int) (xs : List Value) (U1 U2 : TypeId) (v : Int) (K : V → Heap → Prop) : (exF cfg87 Try.f87 [.ptr 0 0, .ptr 1 0, .ptr 2 0] [.pk 0 [ws, cur] xs [.row 3], .cells U1 (icV 23 0 ys), .cells U2 [vi v], .row 0 ws true] K) = (
    ((
      ((Go.Rx.eqL ws ws && (Nat.ble (List.length xs) 2 && Nat.beq (List.length cur) (List.length ws))) = Bool.true)) ∧ (
      ((
        ((
          (Go.Rx.Lay8 (List.getD ys 2 0) (List.getD ys 11 0) (List.getD ys 22 0))) ∧ (
          (Int.NonNeg ((↑(List.length cur) : Int) - List.getD ys 22 0))))) ∧ (
        K (.tup []) [.pk 0 ([ws, Prod.snd (Go.Rx.ensM cur (List.getD ys 2 0) (List.getD ys 11 0) 3 2)]) (xs) [.row 3], .cells U1 [vi (List.getD ys 0 0), vi (List.getD ys 1 0), vi (List.getD ys 2 0), vi (List.getD ys 3 0), vi (List.getD ys 4 0), vi (List.getD ys 5 0), vi (List.getD ys 6 0), vi (List.getD ys 7 0), vi (List.getD ys 8 0), vi (List.getD ys 9 0), vi (List.getD ys 10 0), vi (List.getD ys 11 0), vi (List.getD ys 12 0), vi (List.getD ys 13 0), vi (List.getD ys 14 0), vi (List.getD ys 15 0), vi (List.getD ys 16 0), vi (List.getD ys 17 0), vi (List.getD ys 18 0), vi (List.getD ys 19 0), vi (List.getD ys 20 0), vi (List.getD ys 21 0), vi (List.getD ys 22 0)], .cells U2 [vi (Prod.fst (Go.Rx.ensM cur (List.getD ys 2 0) (List.getD ys 11 0) 3 2))], .row 0 (ws : List (Int)) Bool.true]))))) := by
  kernel_rfl

theorem nf86 (ws ys : List Int) (U1 U2 : TypeId) (v : Int) (K : V → Heap → Prop) : (exF (cfg86 ys) Try.f86 [.row 0, .fn 87 [.ptr 1 0, .ptr 2 0]] [.row 0 ws true, .cells U1 (icV 23 0 ys), .cells U2 [vi v]] K) = (
    Req (Decidable.decide (List.length ws ≤ 1048576))
      (
      ∀ (y0 : Go.Value), (
        ((
          ((Go.Rx.eqL ws ws && (Nat.ble 1 2 && Nat.beq (List.length ws) (List.length ws))) = Bool.true)) ∧ (
          ((
            ([Go.Rx.V.ext (Go.Value.int Go.IntKind.i64 (List.getD ys 0 0)), Go.Rx.V.ext (Go.Value.int Go.IntKind.i64 (List.getD ys 1 0)), Go.Rx.V.ext (Go.Value.int Go.IntKind.i64 (List.getD ys 2 0)), Go.Rx.V.ext (Go.Value.int Go.IntKind.i64 (List.getD ys 3 0)), Go.Rx.V.ext (Go.Value.int Go.IntKind.i64 (List.getD ys 4 0)), Go.Rx.V.ext (Go.Value.int Go.IntKind.i64 (List.getD ys 5 0)), Go.Rx.V.ext (Go.Value.int Go.IntKind.i64 (List.getD ys 6 0)), Go.Rx.V.ext (Go.Value.int Go.IntKind.i64 (List.getD ys 7 0)), Go.Rx.V.ext (Go.Value.int Go.IntKind.i64 (List.getD ys 8 0)), Go.Rx.V.ext (Go.Value.int Go.IntKind.i64 (List.getD ys 9 0)), Go.Rx.V.ext (Go.Value.int Go.IntKind.i64 (List.getD ys 10 0)), Go.Rx.V.ext (Go.Value.int Go.IntKind.i64 (List.getD ys 11 0)), Go.Rx.V.ext (Go.Value.int Go.IntKind.i64 (List.getD ys 12 0)), Go.Rx.V.ext (Go.Value.int Go.IntKind.i64 (List.getD ys 13 0)), Go.Rx.V.ext (Go.Value.int Go.IntKind.i64 (List.getD ys 14 0)), Go.Rx.V.ext (Go.Value.int Go.IntKind.i64 (List.getD ys 15 0)), Go.Rx.V.ext (Go.Value.int Go.IntKind.i64 (List.getD ys 16 0)), Go.Rx.V.ext (Go.Value.int Go.IntKind.i64 (List.getD ys 17 0)), Go.Rx.V.ext (Go.Value.int Go.IntKind.i64 (List.getD ys 18 0)), Go.Rx.V.ext (Go.Value.int Go.IntKind.i64 (List.getD ys 19 0)), Go.Rx.V.ext (Go.Value.int Go.IntKind.i64 (List.getD ys 20 0)), Go.Rx.V.ext (Go.Value.int Go.IntKind.i64 (List.getD ys 21 0)), Go.Rx.V.ext (Go.Value.int Go.IntKind.i64 (List.getD ys 22 0))] = Go.Rx.icV 23 0 ys)) ∧ (
            ((
              ((
                (Go.Rx.Lay8 (List.getD ys 2 0) (List.getD ys 11 0) (List.getD ys 22 0))) ∧ (
                (Int.NonNeg ((↑(List.length ws) : Int) - List.getD ys 22 0))))) ∧ (
              ((
                (y0 = y0)) ∧ (
                ∀ (y1 : Int → Option Int), (
                  ∀ (y2 : Nat), (
                    ∀ (y3 : List Go.Rx.Pr), (
                      ∀ (y4 : List (List Int)), (
                        ((Go.Rx.ViewOK ws (Prod.snd (Go.Rx.ensM ws (List.getD ys 2 0) (List.getD ys 11 0) 3 2)) y1 y3 y4) → (
                          Req (Nat.ble (List.length y4) 1048576)
                            (
                            Req (Decidable.decide (0 + List.length ws ≤ 1048576))
                              (
                              Loop (cfg86 ys) (⟨54, 3⟩ : Cx) (at_ (bodyOf Try.f86) [1, 1, 1, 1, 1, 1, 0, 1, 0, 0])  (mkEnv [(0, .row 0), (7, .ptr 3 0), (10, .row 4), (31, .row 5), (32, vi ((↑(List.length (List.map Go.Rx.prOf y4)) : Int))), (33, vi (0))]) [.row 0 (ws : List (Int)) Bool.true, .cells U1 [vi (List.getD ys 0 0), vi (List.getD ys 1 0), vi (List.getD ys 2 0), vi (List.getD ys 3 0), vi (List.getD ys 4 0), vi (List.getD ys 5 0), vi (List.getD ys 6 0), vi (List.getD ys 7 0), vi (List.getD ys 8 0), vi (List.getD ys 9 0), vi (List.getD ys 10 0), vi (List.getD ys 11 0), vi (List.getD ys 12 0), vi (List.getD ys 13 0), vi (List.getD ys 14 0), vi (List.getD ys 15 0), vi (List.getD ys 16 0), vi (List.getD ys 17 0), vi (List.getD ys 18 0), vi (List.getD ys 19 0), vi (List.getD ys 20 0), vi (List.getD ys 21 0), vi (List.getD ys 22 0)], .cells U2 [vi (Prod.fst (Go.Rx.ensM ws (List.getD ys 2 0) (List.getD ys 11 0) 3 2))], .cells 0 [.row 0, .mp 6, .row 7], .row 0 (ws : List (Int)) Bool.false, .row 2 (List.map Go.Rx.prOf y4 : List (Go.Rx.Pr)) Bool.false, .map (y1) (y2), .row 2 (y3 : List (Go.Rx.Pr)) Bool.false] (contK (cfg86 ys) (⟨54, 3⟩ : Cx) (bodyOf Try.f86) [1, 1, 1, 1, 1, 1, 0, 1, 0] (retK (cfg86 ys) Try.f86 3 K))))))))))))))))))))) := by
  kernel_rfl

theorem nf86r (ws ys : List Int) (U1 U2 : TypeId) (v : Int) (now : List Int) (ps nd : List Pr) (m : Int → Option Int) (n : Nat) (len i : Int) (K : V → Heap → Prop) (J : Env → Heap → Prop) : (ex (cfg86 ys) (⟨54, 3⟩ : Cx) (at_ (bodyOf Try.f86) [1, 1, 1, 1, 1, 1, 0, 1, 0, 0]) (mkEnv [(0, .row 0), (7, .ptr 3 0), (10, .row 4), (31, .row 5), (32, vi len), (33, vi i)]) [.row 0 ws true, .cells U1 (icV 23 0 ys), .cells U2 [vi v], .cells 0 [.row 0, .mp 6, .row 7], .row 0 now false, .row 2 ps false, .map m n, .row 2 nd false] (roundK (cfg86 ys) (⟨54, 3⟩ : Cx) (at_ (bodyOf Try.f86) [1, 1, 1, 1, 1, 1, 0, 1, 0, 0]) (contK (cfg86 ys) (⟨54, 3⟩ : Cx) (bodyOf Try.f86) [1, 1, 1, 1, 1, 1, 0, 1, 0] (retK (cfg86 ys) Try.f86 3 K)) J)) = (
    br (Decidable.decide (i < len))
      (
      Req (Go.Rx.inR i (List.length ps))
        (
        Req (Go.Rx.inR (Go.Rx.offs i 0) (List.length ps))
          (
          br (Decidable.decide (Go.Rx.Pr.Addr (List.getD ps (Int.toNat (Go.Rx.offs i 0)) (Go.Rx.Pr.mk 0 0)) ≥ (↑(List.length ws) : Int)))
            (
            K (.tup [.row 3, .row 4, vi (3)]) [.row 0 (ws : List (Int)) Bool.true, .cells U1 [vi (List.getD ys 0 0), vi (List.getD ys 1 0), vi (List.getD ys 2 0), vi (List.getD ys 3 0), vi (List.getD ys 4 0), vi (List.getD ys 5 0), vi (List.getD ys 6 0), vi (List.getD ys 7 0), vi (List.getD ys 8 0), vi (List.getD ys 9 0), vi (List.getD ys 10 0), vi (List.getD ys 11 0), vi (List.getD ys 12 0), vi (List.getD ys 13 0), vi (List.getD ys 14 0), vi (List.getD ys 15 0), vi (List.getD ys 16 0), vi (List.getD ys 17 0), vi (List.getD ys 18 0), vi (List.getD ys 19 0), vi (List.getD ys 20 0), vi (List.getD ys 21 0), vi (List.getD ys 22 0)], .cells U2 [vi (v)], .row 0 ([] : List (Int)) Bool.false, .row 2 ([] : List (Go.Rx.Pr)) Bool.false])
            (
            Req (Go.Rx.inR (Go.Rx.Pr.Addr (List.getD ps (Int.toNat (Go.Rx.offs i 0)) (Go.Rx.Pr.mk 0 0))) (List.length now))
              (
              Req (Go.Rx.inR (Go.Rx.offs (Go.Rx.Pr.Addr (List.getD ps (Int.toNat (Go.Rx.offs i 0)) (Go.Rx.Pr.mk 0 0))) 0) (List.length now))
                (
                J (mkEnv [(0, .row 0), (7, .ptr 3 0), (10, .row 4), (31, .row 5), (32, vi (len)), (33, vi (Go.IntKind.wrap Go.IntKind.i64 (i + 1)))]) [.row 0 (ws : List (Int)) Bool.true, .cells U1 [vi (List.getD ys 0 0), vi (List.getD ys 1 0), vi (List.getD ys 2 0), vi (List.getD ys 3 0), vi (List.getD ys 4 0), vi (List.getD ys 5 0), vi (List.getD ys 6 0), vi (List.getD ys 7 0), vi (List.getD ys 8 0), vi (List.getD ys 9 0), vi (List.getD ys 10 0), vi (List.getD ys 11 0), vi (List.getD ys 12 0), vi (List.getD ys 13 0), vi (List.getD ys 14 0), vi (List.getD ys 15 0), vi (List.getD ys 16 0), vi (List.getD ys 17 0), vi (List.getD ys 18 0), vi (List.getD ys 19 0), vi (List.getD ys 20 0), vi (List.getD ys 21 0), vi (List.getD ys 22 0)], .cells U2 [vi (v)], .cells 0 [.row 0, .mp 6, .row 7], .row 0 (List.set now (Int.toNat (Go.Rx.offs (Go.Rx.Pr.Addr (List.getD ps (Int.toNat (Go.Rx.offs i 0)) (Go.Rx.Pr.mk 0 0))) 0)) (Go.Rx.Pr.Val (List.getD ps (Int.toNat (Go.Rx.offs i 0)) (Go.Rx.Pr.mk 0 0))) : List (Int)) Bool.false, .row 2 (ps : List (Go.Rx.Pr)) Bool.false, .map (m) (n), .row 2 (nd : List (Go.Rx.Pr)) Bool.false]))))))
      (
      K (.tup [.row 3, .row 4, vi (0)]) [.row 0 (ws : List (Int)) Bool.true, .cells U1 [vi (List.getD ys 0 0), vi (List.getD ys 1 0), vi (List.getD ys 2 0), vi (List.getD ys 3 0), vi (List.getD ys 4 0), vi (List.getD ys 5 0), vi (List.getD ys 6 0), vi (List.getD ys 7 0), vi (List.getD ys 8 0), vi (List.getD ys 9 0), vi (List.getD ys 10 0), vi (List.getD ys 11 0), vi (List.getD ys 12 0), vi (List.getD ys 13 0), vi (List.getD ys 14 0), vi (List.getD ys 15 0), vi (List.getD ys 16 0), vi (List.getD ys 17 0), vi (List.getD ys 18 0), vi (List.getD ys 19 0), vi (List.getD ys 20 0), vi (List.getD ys 21 0), vi (List.getD ys 22 0)], .cells U2 [vi (v)], .row 0 (now : List (Int)) Bool.false, .row 2 (nd : List (Go.Rx.Pr)) Bool.false])) := by
  kernel_rfl

end Go.Rx
end

section
/- view.Do of the example's program. -/
namespace Go.Rx
open Go.Proofs
attribute [local irreducible] Loop ex exF contK roundK retK at_ bodyOf mkEnv mkA

theorem sig87_ok : ∀ g s, sig87 g = some s → SpecOK Try.prog elTT g s := by
  intro g s hs
  unfold sig87 at hs
  split at hs
  · injection hs with hs; subst hs; exact ens8_ok
  · cases hs

theorem cl87_ok (ys : List Int) : SpecOK Try.prog elTT 87 (cl87 ys) := by
  refine spec_of_exF (cfg := cfg87) (cfg_ok rfl rfl rfl) sig87_ok (fn := Try.f87) (by kernel_rfl) (by kernel_rfl) (by kernel_rfl) ?_
  intro args H K h
  unfold cl87 at h
  simp only at h
  split at h
  · rename_i ws cur xs U1 lv U2 v l
    obtain ⟨h1, h2, h3, hk⟩ := h
    have h1' := h1
    simp only [Bool.and_eq_true] at h1
    have e := eqL_eq h1.1
    subst e
    subst h2
    exact Eq.mpr (nf87 _ cur ys xs U1 U2 v K) ⟨h1', ⟨h3.1, h3.2⟩, hk⟩
  · exact h.elim

theorem do87_elim {ys : List Int} {args : List V} {H : Heap} {K : V → Heap → Prop} (h : (do87 ys).tr args H K) : ∃ (ws : List Int) (U1 U2 : TypeId) (v : Int), args = [.row 0, .fn 87 [.ptr 1 0, .ptr 2 0]] ∧ H = [.row 0 ws true, .cells U1 (icV 23 0 ys), .cells U2 [vi v]] ∧
    ws.length ≤ 1048576 ∧ need8 ws ys ∧ ∀ nd : List Pr, K (.tup [.row 3, .row 4, vi 0]) [.row 0 ws true, .cells U1 (icV 23 0 ys), .cells U2 [vi (ensM ws (i ys 2) (i ys 11) 3 2).1], .row 0 (ensM ws (i ys 2) (i ys 11) 3 2).2 false, .row 2 nd false] := by
  unfold do87 at h
  simp only at h
  split at h
  · rename_i ws U1 lv U2 v
    obtain ⟨h1, rfl, h3, hk⟩ := h
    exact ⟨ws, U1, U2, v, rfl, rfl, Nat.le_of_ble_eq_true h1, h3, hk⟩
  · exact h.elim

theorem do87_ok (ys : List Int) : SpecOK Try.prog elTT 86 (do87 ys) := by
  refine spec_of_exF (cfg := cfg86 ys) (cfg_ok rfl rfl rfl) (sigDo_ok (cl87_ok ys)) (fn := Try.f86) (by kernel_rfl) (by kernel_rfl) (by kernel_rfl) ?_
  intro args H K h
  obtain ⟨ws, U1, U2, v, rfl, rfl, hsm, hn, hk⟩ := do87_elim h
  refine Eq.mpr (nf86 ws ys U1 U2 v K) (Req_intro (by simpa using hsm) fun x => ⟨by rw [eqL_self]; simp, rfl, ⟨hn.1, hn.2⟩, rfl, fun m n nd its hv => Req_intro (Nat.ble_eq_true_of_le (by have := view_its hv; omega)) (Req_intro (decide_eq_true (by omega)) ?_)⟩)
  have hlen := view_its hv
  refine loop_ind (σ := Nat) (fun i => mkEnv [(0, .row 0), (7, .ptr 3 0), (10, .row 4), (31, .row 5), (32, vi ((its.map prOf).length : Int)), (33, vi i)])
    (fun j => [.row 0 ws true, .cells U1 (icV 23 0 ys), .cells U2 [vi (ensM ws (i ys 2) (i ys 11) 3 2).1], .cells 0 [.row 0, .mp 6, .row 7], .row 0 (nowN ws its j) false, .row 2 (its.map prOf) false, .map m n, .row 2 nd false]) (fun j => j ≤ its.length) (fun j => its.length - j) ?_ 0 (Nat.zero_le _)
  intro j hj J hJ
  refine Eq.mpr (nf86r ws ys U1 U2 _ (nowN ws its j) (its.map prOf) nd m n _ j K J) (br_intro (fun h1 => ?_) (fun h1 => ?_))
  · have h1 : j < its.length := by simpa using h1
    have h1' : j < (its.map prOf).length := by simpa using h1
    obtain ⟨p1, p2⟩ := pr_in hv h1
    have hnx := hJ (j + 1) h1 (by omega)
    simp only [offs_nat, inR_nat h1', Req_true, Int.toNat_natCast, wrap_succ (show j ≤ 4611686018427387904 by omega), prs_get h1]
    simp only [nowN] at hnx
    generalize prOf (its.getD j []) = p at *
    have hoff : offs p.Addr 0 = p.Addr := by
      have e : p.Addr = ((p.Addr.toNat : Nat) : Int) := by omega
      rw [e]; rfl
    have hin : inR p.Addr (nowN ws its j).length = true := by rw [nowN_len]; exact inR_int p1 p2
    refine br_false (decide_eq_false (by omega)) (Req_intro hin (Req_intro (by rw [hoff]; exact hin) ?_))
    rw [hoff]
    exact hnx
  · have h1 : j = its.length := by simp at h1; omega
    subst h1
    rw [nowN_all hv]
    exact hk nd
end Go.Rx
end

section
namespace Go.Rx
open Go.Proofs
noncomputable def sig43 : FuncId → Option Spec := fun f => match f with
  | 15 => some (inl cfgB Try.f15)
  | _ => none
noncomputable def cfg43 : Cfg := { cfgB with sigs := sig43, plan := planOf 43 }
end Go.Rx
end

section
/- Normal forms of the program's code (by a program of this session's; the kernel checks each). -/
namespace Go.Rx
open Go.Proofs
set_option maxRecDepth 100000
theorem nf43 (xs : List Int) (K : V → Heap → Prop) : (exF cfg43 Try.f43 (mkA [23, 0] 0 xs) [] K) = (
    br (Decidable.decide (List.getD xs 23 0 < 0))
      (
      K (vi (0)) [])
      (
      br (Decidable.decide (List.getD xs 23 0 ≥ List.getD xs 22 0))
        (
        K (vi (0)) [])
        (
        Req (!List.getD xs 3 0 == 0)
          (
          K (vi (Go.IntKind.wrap Go.IntKind.i64 (3 + Int.tmod (List.getD xs 23 0) (List.getD xs 3 0)))) [])))) := by
  kernel_rfl

end Go.Rx
end

section
/- What Lock and Head tell, off their normal forms (by a program of this session's); their contracts. -/
namespace Go.Rx
open Go.Proofs

def v43_0 (xs : List Int) : Int := (bif (Decidable.decide (List.getD xs 23 0 < 0)) then (0) else (bif (Decidable.decide (List.getD xs 23 0 ≥ List.getD xs 22 0)) then (0) else (Go.IntKind.wrap Go.IntKind.i64 (3 + Int.tmod (List.getD xs 23 0) (List.getD xs 3 0)))))

def p43 (xs : List Int) : Prop := (((Decidable.decide (List.getD xs 23 0 < 0)) = false → (((Decidable.decide (List.getD xs 23 0 ≥ List.getD xs 22 0)) = false → ((!List.getD xs 3 0 == 0) = true)))))

def s43 : Spec := fS [23, 0] p43 (fun xs => vi (v43_0 xs))

def q43 : Spec where
  tr := fun args H K => match H, shA [23, 0] args with
    | [], some xs => p43 xs ∧ ∀ (x0 : Int), x0 = v43_0 xs → K (vi x0) []
    | _, _ => False

def v23_0 (xs : List Int) : Int := (bif (Decidable.decide (List.getD xs 11 0 < 0)) then (0) else (bif (Decidable.decide (List.getD xs 11 0 > 4)) then (0) else (bif (Decidable.decide (0 < List.getD xs 11 0)) then (bif (Decidable.decide (Go.IntKind.wrap Go.IntKind.i64 (0 + 1) < List.getD xs 11 0)) then (bif (Decidable.decide (Go.IntKind.wrap Go.IntKind.i64 (Go.IntKind.wrap Go.IntKind.i64 (0 + 1) + 1) < List.getD xs 11 0)) then (bif (Decidable.decide (Go.IntKind.wrap Go.IntKind.i64 (Go.IntKind.wrap Go.IntKind.i64 (Go.IntKind.wrap Go.IntKind.i64 (0 + 1) + 1) + 1) < List.getD xs 11 0)) then (bif (Decidable.decide (Go.IntKind.wrap Go.IntKind.i64 (Go.IntKind.wrap Go.IntKind.i64 (Go.IntKind.wrap Go.IntKind.i64 (Go.IntKind.wrap Go.IntKind.i64 (0 + 1) + 1) + 1) + 1) < List.getD xs 11 0)) then (bif (Decidable.decide (List.getD xs 12 0 ≥ 1)) then (bif (!Decidable.decide (List.getD xs 12 0 ≤ Go.IntKind.wrap Go.IntKind.i64 (Int.tdiv (Go.IntKind.wrap Go.IntKind.i64 (Int.tdiv (Go.IntKind.wrap Go.IntKind.i64 (Int.tdiv (Go.IntKind.wrap Go.IntKind.i64 (Int.tdiv (Go.IntKind.wrap Go.IntKind.i64 (Int.tdiv 32 2)) 2)) 2)) 2)) 2))) then (0) else (Go.IntKind.wrap Go.IntKind.i64 (Go.IntKind.wrap Go.IntKind.i64 (Go.IntKind.wrap Go.IntKind.i64 (Go.IntKind.wrap Go.IntKind.i64 (Go.IntKind.wrap Go.IntKind.i64 (Go.IntKind.wrap Go.IntKind.i64 (3 + List.getD xs 3 0) + Go.IntKind.wrap Go.IntKind.i64 (Int.tdiv (Go.IntKind.wrap Go.IntKind.i64 (List.getD xs 2 0 + 3)) 4)) + Go.IntKind.wrap Go.IntKind.i64 (5 * List.getD xs 2 0)) + Go.IntKind.wrap Go.IntKind.i64 (Go.IntKind.wrap Go.IntKind.i64 (Go.IntKind.wrap Go.IntKind.i64 (Go.IntKind.wrap Go.IntKind.i64 (Go.IntKind.wrap Go.IntKind.i64 (0 + 32) + Go.IntKind.wrap Go.IntKind.i64 (Int.tdiv 32 2)) + Go.IntKind.wrap Go.IntKind.i64 (Int.tdiv (Go.IntKind.wrap Go.IntKind.i64 (Int.tdiv 32 2)) 2)) + Go.IntKind.wrap Go.IntKind.i64 (Int.tdiv (Go.IntKind.wrap Go.IntKind.i64 (Int.tdiv (Go.IntKind.wrap Go.IntKind.i64 (Int.tdiv 32 2)) 2)) 2)) + Go.IntKind.wrap Go.IntKind.i64 (Int.tdiv (Go.IntKind.wrap Go.IntKind.i64 (Int.tdiv (Go.IntKind.wrap Go.IntKind.i64 (Int.tdiv (Go.IntKind.wrap Go.IntKind.i64 (Int.tdiv 32 2)) 2)) 2)) 2))) + List.getD xs 12 0) - 1))) else (0)) else (bif (Decidable.decide (List.getD xs 12 0 ≥ 1)) then (bif (!Decidable.decide (List.getD xs 12 0 ≤ Go.IntKind.wrap Go.IntKind.i64 (Int.tdiv (Go.IntKind.wrap Go.IntKind.i64 (Int.tdiv (Go.IntKind.wrap Go.IntKind.i64 (Int.tdiv (Go.IntKind.wrap Go.IntKind.i64 (Int.tdiv 32 2)) 2)) 2)) 2))) then (0) else (Go.IntKind.wrap Go.IntKind.i64 (Go.IntKind.wrap Go.IntKind.i64 (Go.IntKind.wrap Go.IntKind.i64 (Go.IntKind.wrap Go.IntKind.i64 (Go.IntKind.wrap Go.IntKind.i64 (Go.IntKind.wrap Go.IntKind.i64 (3 + List.getD xs 3 0) + Go.IntKind.wrap Go.IntKind.i64 (Int.tdiv (Go.IntKind.wrap Go.IntKind.i64 (List.getD xs 2 0 + 3)) 4)) + Go.IntKind.wrap Go.IntKind.i64 (5 * List.getD xs 2 0)) + Go.IntKind.wrap Go.IntKind.i64 (Go.IntKind.wrap Go.IntKind.i64 (Go.IntKind.wrap Go.IntKind.i64 (Go.IntKind.wrap Go.IntKind.i64 (0 + 32) + Go.IntKind.wrap Go.IntKind.i64 (Int.tdiv 32 2)) + Go.IntKind.wrap Go.IntKind.i64 (Int.tdiv (Go.IntKind.wrap Go.IntKind.i64 (Int.tdiv 32 2)) 2)) + Go.IntKind.wrap Go.IntKind.i64 (Int.tdiv (Go.IntKind.wrap Go.IntKind.i64 (Int.tdiv (Go.IntKind.wrap Go.IntKind.i64 (Int.tdiv 32 2)) 2)) 2))) + List.getD xs 12 0) - 1))) else (0))) else (bif (Decidable.decide (List.getD xs 12 0 ≥ 1)) then (bif (!Decidable.decide (List.getD xs 12 0 ≤ Go.IntKind.wrap Go.IntKind.i64 (Int.tdiv (Go.IntKind.wrap Go.IntKind.i64 (Int.tdiv (Go.IntKind.wrap Go.IntKind.i64 (Int.tdiv 32 2)) 2)) 2))) then (0) else (Go.IntKind.wrap Go.IntKind.i64 (Go.IntKind.wrap Go.IntKind.i64 (Go.IntKind.wrap Go.IntKind.i64 (Go.IntKind.wrap Go.IntKind.i64 (Go.IntKind.wrap Go.IntKind.i64 (Go.IntKind.wrap Go.IntKind.i64 (3 + List.getD xs 3 0) + Go.IntKind.wrap Go.IntKind.i64 (Int.tdiv (Go.IntKind.wrap Go.IntKind.i64 (List.getD xs 2 0 + 3)) 4)) + Go.IntKind.wrap Go.IntKind.i64 (5 * List.getD xs 2 0)) + Go.IntKind.wrap Go.IntKind.i64 (Go.IntKind.wrap Go.IntKind.i64 (Go.IntKind.wrap Go.IntKind.i64 (0 + 32) + Go.IntKind.wrap Go.IntKind.i64 (Int.tdiv 32 2)) + Go.IntKind.wrap Go.IntKind.i64 (Int.tdiv (Go.IntKind.wrap Go.IntKind.i64 (Int.tdiv 32 2)) 2))) + List.getD xs 12 0) - 1))) else (0))) else (bif (Decidable.decide (List.getD xs 12 0 ≥ 1)) then (bif (!Decidable.decide (List.getD xs 12 0 ≤ Go.IntKind.wrap Go.IntKind.i64 (Int.tdiv (Go.IntKind.wrap Go.IntKind.i64 (Int.tdiv 32 2)) 2))) then (0) else (Go.IntKind.wrap Go.IntKind.i64 (Go.IntKind.wrap Go.IntKind.i64 (Go.IntKind.wrap Go.IntKind.i64 (Go.IntKind.wrap Go.IntKind.i64 (Go.IntKind.wrap Go.IntKind.i64 (Go.IntKind.wrap Go.IntKind.i64 (3 + List.getD xs 3 0) + Go.IntKind.wrap Go.IntKind.i64 (Int.tdiv (Go.IntKind.wrap Go.IntKind.i64 (List.getD xs 2 0 + 3)) 4)) + Go.IntKind.wrap Go.IntKind.i64 (5 * List.getD xs 2 0)) + Go.IntKind.wrap Go.IntKind.i64 (Go.IntKind.wrap Go.IntKind.i64 (0 + 32) + Go.IntKind.wrap Go.IntKind.i64 (Int.tdiv 32 2))) + List.getD xs 12 0) - 1))) else (0))) else (bif (Decidable.decide (List.getD xs 12 0 ≥ 1)) then (bif (!Decidable.decide (List.getD xs 12 0 ≤ Go.IntKind.wrap Go.IntKind.i64 (Int.tdiv 32 2))) then (0) else (Go.IntKind.wrap Go.IntKind.i64 (Go.IntKind.wrap Go.IntKind.i64 (Go.IntKind.wrap Go.IntKind.i64 (Go.IntKind.wrap Go.IntKind.i64 (Go.IntKind.wrap Go.IntKind.i64 (Go.IntKind.wrap Go.IntKind.i64 (3 + List.getD xs 3 0) + Go.IntKind.wrap Go.IntKind.i64 (Int.tdiv (Go.IntKind.wrap Go.IntKind.i64 (List.getD xs 2 0 + 3)) 4)) + Go.IntKind.wrap Go.IntKind.i64 (5 * List.getD xs 2 0)) + Go.IntKind.wrap Go.IntKind.i64 (0 + 32)) + List.getD xs 12 0) - 1))) else (0))) else (bif (Decidable.decide (List.getD xs 12 0 ≥ 1)) then (bif (!Decidable.decide (List.getD xs 12 0 ≤ 32)) then (0) else (Go.IntKind.wrap Go.IntKind.i64 (Go.IntKind.wrap Go.IntKind.i64 (Go.IntKind.wrap Go.IntKind.i64 (Go.IntKind.wrap Go.IntKind.i64 (Go.IntKind.wrap Go.IntKind.i64 (Go.IntKind.wrap Go.IntKind.i64 (3 + List.getD xs 3 0) + Go.IntKind.wrap Go.IntKind.i64 (Int.tdiv (Go.IntKind.wrap Go.IntKind.i64 (List.getD xs 2 0 + 3)) 4)) + Go.IntKind.wrap Go.IntKind.i64 (5 * List.getD xs 2 0)) + 0) + List.getD xs 12 0) - 1))) else (0)))))

def p23 (xs : List Int) : Prop := (((Decidable.decide (List.getD xs 11 0 < 0)) = false → (((Decidable.decide (List.getD xs 11 0 > 4)) = false → (((Decidable.decide (0 < List.getD xs 11 0)) = true → (((Decidable.decide (Go.IntKind.wrap Go.IntKind.i64 (0 + 1) < List.getD xs 11 0)) = true → (((Decidable.decide (Go.IntKind.wrap Go.IntKind.i64 (Go.IntKind.wrap Go.IntKind.i64 (0 + 1) + 1) < List.getD xs 11 0)) = true → (((Decidable.decide (Go.IntKind.wrap Go.IntKind.i64 (Go.IntKind.wrap Go.IntKind.i64 (Go.IntKind.wrap Go.IntKind.i64 (0 + 1) + 1) + 1) < List.getD xs 11 0)) = true → (((Decidable.decide (Go.IntKind.wrap Go.IntKind.i64 (Go.IntKind.wrap Go.IntKind.i64 (Go.IntKind.wrap Go.IntKind.i64 (Go.IntKind.wrap Go.IntKind.i64 (0 + 1) + 1) + 1) + 1) < List.getD xs 11 0)) = true → (((Decidable.decide (Go.IntKind.wrap Go.IntKind.i64 (Go.IntKind.wrap Go.IntKind.i64 (Go.IntKind.wrap Go.IntKind.i64 (Go.IntKind.wrap Go.IntKind.i64 (Go.IntKind.wrap Go.IntKind.i64 (0 + 1) + 1) + 1) + 1) + 1) < List.getD xs 11 0)) = true → False))))))))))))))))

def s23 : Spec := fS [11, 0, 0] p23 (fun xs => vi (v23_0 xs))

def q23 : Spec where
  tr := fun args H K => match H, shA [11, 0, 0] args with
    | [], some xs => p23 xs ∧ ∀ (x0 : Int), x0 = v23_0 xs → K (vi x0) []
    | _, _ => False



attribute [local irreducible] Loop ex exF contK roundK retK at_ bodyOf mkEnv mkA

theorem sig43_ok : ∀ g s, sig43 g = some s → SpecOK Try.prog elTT g s := by
  intro g s hs
  unfold sig43 at hs
  split at hs
  · injection hs with hs; subst hs; exact inl_ok (cfg := cfgB) (cfg_ok rfl rfl rfl) (nosig rfl) (fn := Try.f15) (by kernel_rfl) (by kernel_rfl) (by kernel_rfl)
  · cases hs


theorem ok43 : SpecOK Try.prog elTT 43 s43 :=
  fS_ok (cfg := cfg43) (cfg_ok rfl rfl rfl) sig43_ok (fn := Try.f43) (by kernel_rfl) (by kernel_rfl) (by kernel_rfl) fun xs K hp hk => Eq.mpr (nf43 xs K) (br_intro (fun h0 => by simpa only [v43_0, h0, cond_true, cond_false] using hk) (fun h0 => br_intro (fun h1 => by simpa only [v43_0, h0, h1, cond_true, cond_false] using hk) (fun h1 => Req_intro ((hp h0) h1) (by simpa only [v43_0, h0, h1, cond_true, cond_false] using hk))))

theorem okq43 : SpecOK Try.prog elTT 43 q43 :=
  spec_mono (fun args H K h => by
    unfold q43 at h
    simp only at h
    split at h
    · rename_i xs hxs
      unfold s43 fS
      simp only [hxs]
      exact ⟨h.1, h.2 _ rfl⟩
    · exact h.elim) ok43

theorem ok23 : SpecOK Try.prog elTT 23 s23 :=
  fS_ok (cfg := cfg23) (cfg_ok rfl rfl rfl) sigR_ok (fn := Try.f23) (by kernel_rfl) (by kernel_rfl) (by kernel_rfl) fun xs K hp hk => Eq.mpr (nf23 xs K) (br_intro (fun h0 => by simpa only [v23_0, h0, cond_true, cond_false] using hk) (fun h0 => br_intro (fun h1 => by simpa only [v23_0, h0, h1, cond_true, cond_false] using hk) (fun h1 => br_intro (fun h2 => br_intro (fun h3 => br_intro (fun h4 => br_intro (fun h5 => br_intro (fun h6 => br_intro (fun h7 => ((((((((hp h0) h1) h2) h3) h4) h5) h6) h7).elim) (fun h7 => br_intro (fun h8 => br_true h2 (br_true h3 (br_true h4 (br_true h5 (br_true h6 (br_false h7 (br_intro (fun h9 => by simpa only [v23_0, h0, h1, h2, h3, h4, h5, h6, h7, h8, h9, cond_true, cond_false] using hk) (fun h9 => by simpa only [v23_0, h0, h1, h2, h3, h4, h5, h6, h7, h8, h9, cond_true, cond_false] using hk)))))))) (fun h8 => by simpa only [v23_0, h0, h1, h2, h3, h4, h5, h6, h7, h8, cond_true, cond_false] using hk))) (fun h6 => br_intro (fun h7 => br_true h2 (br_true h3 (br_true h4 (br_true h5 (br_false h6 (br_intro (fun h8 => by simpa only [v23_0, h0, h1, h2, h3, h4, h5, h6, h7, h8, cond_true, cond_false] using hk) (fun h8 => by simpa only [v23_0, h0, h1, h2, h3, h4, h5, h6, h7, h8, cond_true, cond_false] using hk))))))) (fun h7 => by simpa only [v23_0, h0, h1, h2, h3, h4, h5, h6, h7, cond_true, cond_false] using hk))) (fun h5 => br_intro (fun h6 => br_true h2 (br_true h3 (br_true h4 (br_false h5 (br_intro (fun h7 => by simpa only [v23_0, h0, h1, h2, h3, h4, h5, h6, h7, cond_true, cond_false] using hk) (fun h7 => by simpa only [v23_0, h0, h1, h2, h3, h4, h5, h6, h7, cond_true, cond_false] using hk)))))) (fun h6 => by simpa only [v23_0, h0, h1, h2, h3, h4, h5, h6, cond_true, cond_false] using hk))) (fun h4 => br_intro (fun h5 => br_true h2 (br_true h3 (br_false h4 (br_intro (fun h6 => by simpa only [v23_0, h0, h1, h2, h3, h4, h5, h6, cond_true, cond_false] using hk) (fun h6 => by simpa only [v23_0, h0, h1, h2, h3, h4, h5, h6, cond_true, cond_false] using hk))))) (fun h5 => by simpa only [v23_0, h0, h1, h2, h3, h4, h5, cond_true, cond_false] using hk))) (fun h3 => br_intro (fun h4 => br_true h2 (br_false h3 (br_intro (fun h5 => by simpa only [v23_0, h0, h1, h2, h3, h4, h5, cond_true, cond_false] using hk) (fun h5 => by simpa only [v23_0, h0, h1, h2, h3, h4, h5, cond_true, cond_false] using hk)))) (fun h4 => by simpa only [v23_0, h0, h1, h2, h3, h4, cond_true, cond_false] using hk))) (fun h2 => br_intro (fun h3 => br_false h2 (br_intro (fun h4 => by simpa only [v23_0, h0, h1, h2, h3, h4, cond_true, cond_false] using hk) (fun h4 => by simpa only [v23_0, h0, h1, h2, h3, h4, cond_true, cond_false] using hk))) (fun h3 => by simpa only [v23_0, h0, h1, h2, h3, cond_true, cond_false] using hk)))))

theorem okq23 : SpecOK Try.prog elTT 23 q23 :=
  spec_mono (fun args H K h => by
    unfold q23 at h
    simp only at h
    split at h
    · rename_i xs hxs
      unfold s23 fS
      simp only [hxs]
      exact ⟨h.1, h.2 _ rfl⟩
    · exact h.elim) ok23

end Go.Rx
end

section
/- The program's layout and the reference's tell the same. -/
namespace Go.Rx
open Go.Proofs
set_option maxRecDepth 100000

theorem e_mul {a b : Int} {m n : Int} (h0 : 0 ≤ a) (h1 : a ≤ m) (h2 : 0 ≤ b) (h3 : b ≤ n) : 0 ≤ a * b ∧ a * b ≤ m * n :=
  ⟨Int.mul_nonneg h0 h2, Int.mul_le_mul h1 h3 h2 (Int.le_trans h0 h1)⟩
theorem ite_of {c : Prop} [Decidable c] {α : Type} {a b x : α} (h1 : c → a = x) (h2 : ¬ c → b = x) : (if c then a else b) = x := by
  split
  · exact h1 ‹_›
  · exact h2 ‹_›

theorem e18_0 {c : List Int} (R : Right c) : v18_0 [List.getD (layM c) 0 0, List.getD (layM c) 1 0, List.getD (layM c) 2 0, List.getD (layM c) 3 0, List.getD (layM c) 4 0, List.getD (layM c) 5 0, List.getD (layM c) 6 0, List.getD (layM c) 7 0, List.getD (layM c) 8 0, List.getD (layM c) 9 0, List.getD (layM c) 10 0, List.getD (layM c) 11 0, List.getD (layM c) 12 0, List.getD (layM c) 13 0, List.getD (layM c) 14 0, List.getD (layM c) 15 0, List.getD (layM c) 16 0, List.getD (layM c) 17 0, List.getD (layM c) 18 0, List.getD (layM c) 19 0, List.getD (layM c) 20 0, List.getD (layM c) 21 0, List.getD (layM c) 22 0] = v19_0 [List.getD c 0 0, List.getD c 1 0, List.getD c 2 0, List.getD c 3 0, List.getD c 4 0, List.getD c 5 0, List.getD c 6 0, List.getD c 7 0, List.getD c 8 0, List.getD c 9 0, List.getD c 10 0] := by
  obtain ⟨r0, r1, r2, r3, r4, r5, r6, r7, r8, r9, r10⟩ := R
  have hM := e_mul (a := i c 1) (b := i c 8 + 1) (m := 8) (n := 9) (by omega) (by omega) (by omega) (by omega)
  unfold v18_0 v19_0 
  simp only [List.getD_cons_zero, List.getD_cons_succ, layM, a11, a10, a9, a8, a7, a6, a1, a0]
  unfold i at *
  generalize c.getD 0 0 = q0 at *
  generalize c.getD 1 0 = q1 at *
  generalize c.getD 2 0 = q2 at *
  generalize c.getD 3 0 = q3 at *
  generalize c.getD 8 0 = q8 at *
  generalize c.getD 9 0 = q9 at *
  have hq : 5 * q1 * (q8 + 1) = 5 * (q1 * (q8 + 1)) := Int.mul_assoc _ _ _
  generalize q1 * (q8 + 1) = M at *
  simp (disch := omega) only [wrap_id, Int.tdiv_eq_ediv_of_nonneg, Int.tmod_eq_emod_of_nonneg, hq, Bool.cond_eq_ite, decide_eq_true_eq, Bool.not_eq_true', decide_eq_false_iff_not, Bool.or_eq_true, Bool.and_eq_true, beq_iff_eq]
  repeat' split
  all_goals try (first | omega | rfl | (simp (disch := omega) only [wrap_id, Int.tdiv_eq_ediv_of_nonneg, Int.tmod_eq_emod_of_nonneg, hq]; done) | (simp (disch := omega) only [wrap_id, Int.tdiv_eq_ediv_of_nonneg, Int.tmod_eq_emod_of_nonneg, hq]; omega))

theorem e20_0 {c : List Int} (R : Right c) (p : Int) : v20_0 [List.getD (layM c) 0 0, List.getD (layM c) 1 0, List.getD (layM c) 2 0, List.getD (layM c) 3 0, List.getD (layM c) 4 0, List.getD (layM c) 5 0, List.getD (layM c) 6 0, List.getD (layM c) 7 0, List.getD (layM c) 8 0, List.getD (layM c) 9 0, List.getD (layM c) 10 0, List.getD (layM c) 11 0, List.getD (layM c) 12 0, List.getD (layM c) 13 0, List.getD (layM c) 14 0, List.getD (layM c) 15 0, List.getD (layM c) 16 0, List.getD (layM c) 17 0, List.getD (layM c) 18 0, List.getD (layM c) 19 0, List.getD (layM c) 20 0, List.getD (layM c) 21 0, List.getD (layM c) 22 0, p] = v21_0 [List.getD c 0 0, List.getD c 1 0, List.getD c 2 0, List.getD c 3 0, List.getD c 4 0, List.getD c 5 0, List.getD c 6 0, List.getD c 7 0, List.getD c 8 0, List.getD c 9 0, List.getD c 10 0, p] := by
  obtain ⟨r0, r1, r2, r3, r4, r5, r6, r7, r8, r9, r10⟩ := R
  have hM := e_mul (a := i c 1) (b := i c 8 + 1) (m := 8) (n := 9) (by omega) (by omega) (by omega) (by omega)
  unfold v20_0 v21_0 v18_0
  simp only [List.getD_cons_zero, List.getD_cons_succ, layM, a11, a10, a9, a8, a7, a6, a1, a0]
  unfold i at *
  generalize c.getD 0 0 = q0 at *
  generalize c.getD 1 0 = q1 at *
  generalize c.getD 2 0 = q2 at *
  generalize c.getD 3 0 = q3 at *
  generalize c.getD 8 0 = q8 at *
  generalize c.getD 9 0 = q9 at *
  have hq : 5 * q1 * (q8 + 1) = 5 * (q1 * (q8 + 1)) := Int.mul_assoc _ _ _
  generalize q1 * (q8 + 1) = M at *
  simp (disch := omega) only [wrap_id, Int.tdiv_eq_ediv_of_nonneg, Int.tmod_eq_emod_of_nonneg, hq, Bool.cond_eq_ite, decide_eq_true_eq, Bool.not_eq_true', decide_eq_false_iff_not, Bool.or_eq_true, Bool.and_eq_true, beq_iff_eq]
  repeat' split
  all_goals try (first | omega | rfl | (simp (disch := omega) only [wrap_id, Int.tdiv_eq_ediv_of_nonneg, Int.tmod_eq_emod_of_nonneg, hq]; done) | (simp (disch := omega) only [wrap_id, Int.tdiv_eq_ediv_of_nonneg, Int.tmod_eq_emod_of_nonneg, hq]; omega))

theorem e24_0 {c : List Int} (R : Right c) (p : Int) : v24_0 [List.getD (layM c) 0 0, List.getD (layM c) 1 0, List.getD (layM c) 2 0, List.getD (layM c) 3 0, List.getD (layM c) 4 0, List.getD (layM c) 5 0, List.getD (layM c) 6 0, List.getD (layM c) 7 0, List.getD (layM c) 8 0, List.getD (layM c) 9 0, List.getD (layM c) 10 0, List.getD (layM c) 11 0, List.getD (layM c) 12 0, List.getD (layM c) 13 0, List.getD (layM c) 14 0, List.getD (layM c) 15 0, List.getD (layM c) 16 0, List.getD (layM c) 17 0, List.getD (layM c) 18 0, List.getD (layM c) 19 0, List.getD (layM c) 20 0, List.getD (layM c) 21 0, List.getD (layM c) 22 0, p] = v25_0 [List.getD c 0 0, List.getD c 1 0, List.getD c 2 0, List.getD c 3 0, List.getD c 4 0, List.getD c 5 0, List.getD c 6 0, List.getD c 7 0, List.getD c 8 0, List.getD c 9 0, List.getD c 10 0, p] := by
  obtain ⟨r0, r1, r2, r3, r4, r5, r6, r7, r8, r9, r10⟩ := R
  have hM := e_mul (a := i c 1) (b := i c 8 + 1) (m := 8) (n := 9) (by omega) (by omega) (by omega) (by omega)
  unfold v24_0 v25_0 
  simp only [List.getD_cons_zero, List.getD_cons_succ, layM, a11, a10, a9, a8, a7, a6, a1, a0]
  unfold i at *
  generalize c.getD 0 0 = q0 at *
  generalize c.getD 1 0 = q1 at *
  generalize c.getD 2 0 = q2 at *
  generalize c.getD 3 0 = q3 at *
  generalize c.getD 8 0 = q8 at *
  generalize c.getD 9 0 = q9 at *
  have hq : 5 * q1 * (q8 + 1) = 5 * (q1 * (q8 + 1)) := Int.mul_assoc _ _ _
  generalize q1 * (q8 + 1) = M at *
  simp (disch := omega) only [wrap_id, Int.tdiv_eq_ediv_of_nonneg, Int.tmod_eq_emod_of_nonneg, hq, Bool.cond_eq_ite, decide_eq_true_eq, Bool.not_eq_true', decide_eq_false_iff_not, Bool.or_eq_true, Bool.and_eq_true, beq_iff_eq]
  repeat' split
  all_goals try (first | omega | rfl | (simp (disch := omega) only [wrap_id, Int.tdiv_eq_ediv_of_nonneg, Int.tmod_eq_emod_of_nonneg, hq]; done) | (simp (disch := omega) only [wrap_id, Int.tdiv_eq_ediv_of_nonneg, Int.tmod_eq_emod_of_nonneg, hq]; omega))

theorem e26_0 {c : List Int} (R : Right c) (p : Int) : v26_0 [List.getD (layM c) 0 0, List.getD (layM c) 1 0, List.getD (layM c) 2 0, List.getD (layM c) 3 0, List.getD (layM c) 4 0, List.getD (layM c) 5 0, List.getD (layM c) 6 0, List.getD (layM c) 7 0, List.getD (layM c) 8 0, List.getD (layM c) 9 0, List.getD (layM c) 10 0, List.getD (layM c) 11 0, List.getD (layM c) 12 0, List.getD (layM c) 13 0, List.getD (layM c) 14 0, List.getD (layM c) 15 0, List.getD (layM c) 16 0, List.getD (layM c) 17 0, List.getD (layM c) 18 0, List.getD (layM c) 19 0, List.getD (layM c) 20 0, List.getD (layM c) 21 0, List.getD (layM c) 22 0, p] = v27_0 [List.getD c 0 0, List.getD c 1 0, List.getD c 2 0, List.getD c 3 0, List.getD c 4 0, List.getD c 5 0, List.getD c 6 0, List.getD c 7 0, List.getD c 8 0, List.getD c 9 0, List.getD c 10 0, p] := by
  obtain ⟨r0, r1, r2, r3, r4, r5, r6, r7, r8, r9, r10⟩ := R
  have hM := e_mul (a := i c 1) (b := i c 8 + 1) (m := 8) (n := 9) (by omega) (by omega) (by omega) (by omega)
  unfold v26_0 v27_0 
  simp only [List.getD_cons_zero, List.getD_cons_succ, layM, a11, a10, a9, a8, a7, a6, a1, a0]
  unfold i at *
  generalize c.getD 0 0 = q0 at *
  generalize c.getD 1 0 = q1 at *
  generalize c.getD 2 0 = q2 at *
  generalize c.getD 3 0 = q3 at *
  generalize c.getD 8 0 = q8 at *
  generalize c.getD 9 0 = q9 at *
  have hq : 5 * q1 * (q8 + 1) = 5 * (q1 * (q8 + 1)) := Int.mul_assoc _ _ _
  generalize q1 * (q8 + 1) = M at *
  simp (disch := omega) only [wrap_id, Int.tdiv_eq_ediv_of_nonneg, Int.tmod_eq_emod_of_nonneg, hq, Bool.cond_eq_ite, decide_eq_true_eq, Bool.not_eq_true', decide_eq_false_iff_not, Bool.or_eq_true, Bool.and_eq_true, beq_iff_eq]
  repeat' split
  all_goals try (first | omega | rfl | (simp (disch := omega) only [wrap_id, Int.tdiv_eq_ediv_of_nonneg, Int.tmod_eq_emod_of_nonneg, hq]; done) | (simp (disch := omega) only [wrap_id, Int.tdiv_eq_ediv_of_nonneg, Int.tmod_eq_emod_of_nonneg, hq]; omega))

theorem e28_0 {c : List Int} (R : Right c) (p : Int) : v28_0 [List.getD (layM c) 0 0, List.getD (layM c) 1 0, List.getD (layM c) 2 0, List.getD (layM c) 3 0, List.getD (layM c) 4 0, List.getD (layM c) 5 0, List.getD (layM c) 6 0, List.getD (layM c) 7 0, List.getD (layM c) 8 0, List.getD (layM c) 9 0, List.getD (layM c) 10 0, List.getD (layM c) 11 0, List.getD (layM c) 12 0, List.getD (layM c) 13 0, List.getD (layM c) 14 0, List.getD (layM c) 15 0, List.getD (layM c) 16 0, List.getD (layM c) 17 0, List.getD (layM c) 18 0, List.getD (layM c) 19 0, List.getD (layM c) 20 0, List.getD (layM c) 21 0, List.getD (layM c) 22 0, p] = v29_0 [List.getD c 0 0, List.getD c 1 0, List.getD c 2 0, List.getD c 3 0, List.getD c 4 0, List.getD c 5 0, List.getD c 6 0, List.getD c 7 0, List.getD c 8 0, List.getD c 9 0, List.getD c 10 0, p] := by
  obtain ⟨r0, r1, r2, r3, r4, r5, r6, r7, r8, r9, r10⟩ := R
  have hM := e_mul (a := i c 1) (b := i c 8 + 1) (m := 8) (n := 9) (by omega) (by omega) (by omega) (by omega)
  unfold v28_0 v29_0 
  simp only [List.getD_cons_zero, List.getD_cons_succ, layM, a11, a10, a9, a8, a7, a6, a1, a0]
  unfold i at *
  generalize c.getD 0 0 = q0 at *
  generalize c.getD 1 0 = q1 at *
  generalize c.getD 2 0 = q2 at *
  generalize c.getD 3 0 = q3 at *
  generalize c.getD 8 0 = q8 at *
  generalize c.getD 9 0 = q9 at *
  have hq : 5 * q1 * (q8 + 1) = 5 * (q1 * (q8 + 1)) := Int.mul_assoc _ _ _
  generalize q1 * (q8 + 1) = M at *
  simp (disch := omega) only [wrap_id, Int.tdiv_eq_ediv_of_nonneg, Int.tmod_eq_emod_of_nonneg, hq, Bool.cond_eq_ite, decide_eq_true_eq, Bool.not_eq_true', decide_eq_false_iff_not, Bool.or_eq_true, Bool.and_eq_true, beq_iff_eq]
  repeat' split
  all_goals try (first | omega | rfl | (simp (disch := omega) only [wrap_id, Int.tdiv_eq_ediv_of_nonneg, Int.tmod_eq_emod_of_nonneg, hq]; done) | (simp (disch := omega) only [wrap_id, Int.tdiv_eq_ediv_of_nonneg, Int.tmod_eq_emod_of_nonneg, hq]; omega))

theorem e30_0 {c : List Int} (R : Right c) (p : Int) : v30_0 [List.getD (layM c) 0 0, List.getD (layM c) 1 0, List.getD (layM c) 2 0, List.getD (layM c) 3 0, List.getD (layM c) 4 0, List.getD (layM c) 5 0, List.getD (layM c) 6 0, List.getD (layM c) 7 0, List.getD (layM c) 8 0, List.getD (layM c) 9 0, List.getD (layM c) 10 0, List.getD (layM c) 11 0, List.getD (layM c) 12 0, List.getD (layM c) 13 0, List.getD (layM c) 14 0, List.getD (layM c) 15 0, List.getD (layM c) 16 0, List.getD (layM c) 17 0, List.getD (layM c) 18 0, List.getD (layM c) 19 0, List.getD (layM c) 20 0, List.getD (layM c) 21 0, List.getD (layM c) 22 0, p] = v31_0 [List.getD c 0 0, List.getD c 1 0, List.getD c 2 0, List.getD c 3 0, List.getD c 4 0, List.getD c 5 0, List.getD c 6 0, List.getD c 7 0, List.getD c 8 0, List.getD c 9 0, List.getD c 10 0, p] := by
  obtain ⟨r0, r1, r2, r3, r4, r5, r6, r7, r8, r9, r10⟩ := R
  have hM := e_mul (a := i c 1) (b := i c 8 + 1) (m := 8) (n := 9) (by omega) (by omega) (by omega) (by omega)
  unfold v30_0 v31_0 
  simp only [List.getD_cons_zero, List.getD_cons_succ, layM, a11, a10, a9, a8, a7, a6, a1, a0]
  unfold i at *
  generalize c.getD 0 0 = q0 at *
  generalize c.getD 1 0 = q1 at *
  generalize c.getD 2 0 = q2 at *
  generalize c.getD 3 0 = q3 at *
  generalize c.getD 8 0 = q8 at *
  generalize c.getD 9 0 = q9 at *
  have hq : 5 * q1 * (q8 + 1) = 5 * (q1 * (q8 + 1)) := Int.mul_assoc _ _ _
  generalize q1 * (q8 + 1) = M at *
  simp (disch := omega) only [wrap_id, Int.tdiv_eq_ediv_of_nonneg, Int.tmod_eq_emod_of_nonneg, hq, Bool.cond_eq_ite, decide_eq_true_eq, Bool.not_eq_true', decide_eq_false_iff_not, Bool.or_eq_true, Bool.and_eq_true, beq_iff_eq]
  repeat' split
  all_goals try (first | omega | rfl | (simp (disch := omega) only [wrap_id, Int.tdiv_eq_ediv_of_nonneg, Int.tmod_eq_emod_of_nonneg, hq]; done) | (simp (disch := omega) only [wrap_id, Int.tdiv_eq_ediv_of_nonneg, Int.tmod_eq_emod_of_nonneg, hq]; omega))

theorem e32_0 {c : List Int} (R : Right c) (p : Int) : v32_0 [List.getD (layM c) 0 0, List.getD (layM c) 1 0, List.getD (layM c) 2 0, List.getD (layM c) 3 0, List.getD (layM c) 4 0, List.getD (layM c) 5 0, List.getD (layM c) 6 0, List.getD (layM c) 7 0, List.getD (layM c) 8 0, List.getD (layM c) 9 0, List.getD (layM c) 10 0, List.getD (layM c) 11 0, List.getD (layM c) 12 0, List.getD (layM c) 13 0, List.getD (layM c) 14 0, List.getD (layM c) 15 0, List.getD (layM c) 16 0, List.getD (layM c) 17 0, List.getD (layM c) 18 0, List.getD (layM c) 19 0, List.getD (layM c) 20 0, List.getD (layM c) 21 0, List.getD (layM c) 22 0, p] = v33_0 [List.getD c 0 0, List.getD c 1 0, List.getD c 2 0, List.getD c 3 0, List.getD c 4 0, List.getD c 5 0, List.getD c 6 0, List.getD c 7 0, List.getD c 8 0, List.getD c 9 0, List.getD c 10 0, p] := by
  obtain ⟨r0, r1, r2, r3, r4, r5, r6, r7, r8, r9, r10⟩ := R
  have hM := e_mul (a := i c 1) (b := i c 8 + 1) (m := 8) (n := 9) (by omega) (by omega) (by omega) (by omega)
  unfold v32_0 v33_0 
  simp only [List.getD_cons_zero, List.getD_cons_succ, layM, a11, a10, a9, a8, a7, a6, a1, a0]
  unfold i at *
  generalize c.getD 0 0 = q0 at *
  generalize c.getD 1 0 = q1 at *
  generalize c.getD 2 0 = q2 at *
  generalize c.getD 3 0 = q3 at *
  generalize c.getD 8 0 = q8 at *
  generalize c.getD 9 0 = q9 at *
  have hq : 5 * q1 * (q8 + 1) = 5 * (q1 * (q8 + 1)) := Int.mul_assoc _ _ _
  generalize q1 * (q8 + 1) = M at *
  simp (disch := omega) only [wrap_id, Int.tdiv_eq_ediv_of_nonneg, Int.tmod_eq_emod_of_nonneg, hq, Bool.cond_eq_ite, decide_eq_true_eq, Bool.not_eq_true', decide_eq_false_iff_not, Bool.or_eq_true, Bool.and_eq_true, beq_iff_eq]
  repeat' split
  all_goals try (first | omega | rfl | (simp (disch := omega) only [wrap_id, Int.tdiv_eq_ediv_of_nonneg, Int.tmod_eq_emod_of_nonneg, hq]; done) | (simp (disch := omega) only [wrap_id, Int.tdiv_eq_ediv_of_nonneg, Int.tmod_eq_emod_of_nonneg, hq]; omega))

theorem e34_0 {c : List Int} (R : Right c) (p : Int) : v34_0 [List.getD (layM c) 0 0, List.getD (layM c) 1 0, List.getD (layM c) 2 0, List.getD (layM c) 3 0, List.getD (layM c) 4 0, List.getD (layM c) 5 0, List.getD (layM c) 6 0, List.getD (layM c) 7 0, List.getD (layM c) 8 0, List.getD (layM c) 9 0, List.getD (layM c) 10 0, List.getD (layM c) 11 0, List.getD (layM c) 12 0, List.getD (layM c) 13 0, List.getD (layM c) 14 0, List.getD (layM c) 15 0, List.getD (layM c) 16 0, List.getD (layM c) 17 0, List.getD (layM c) 18 0, List.getD (layM c) 19 0, List.getD (layM c) 20 0, List.getD (layM c) 21 0, List.getD (layM c) 22 0, p] = v35_0 [List.getD c 0 0, List.getD c 1 0, List.getD c 2 0, List.getD c 3 0, List.getD c 4 0, List.getD c 5 0, List.getD c 6 0, List.getD c 7 0, List.getD c 8 0, List.getD c 9 0, List.getD c 10 0, p] := by
  obtain ⟨r0, r1, r2, r3, r4, r5, r6, r7, r8, r9, r10⟩ := R
  have hM := e_mul (a := i c 1) (b := i c 8 + 1) (m := 8) (n := 9) (by omega) (by omega) (by omega) (by omega)
  unfold v34_0 v35_0 
  simp only [List.getD_cons_zero, List.getD_cons_succ, layM, a11, a10, a9, a8, a7, a6, a1, a0]
  unfold i at *
  generalize c.getD 0 0 = q0 at *
  generalize c.getD 1 0 = q1 at *
  generalize c.getD 2 0 = q2 at *
  generalize c.getD 3 0 = q3 at *
  generalize c.getD 8 0 = q8 at *
  generalize c.getD 9 0 = q9 at *
  have hq : 5 * q1 * (q8 + 1) = 5 * (q1 * (q8 + 1)) := Int.mul_assoc _ _ _
  generalize q1 * (q8 + 1) = M at *
  simp (disch := omega) only [wrap_id, Int.tdiv_eq_ediv_of_nonneg, Int.tmod_eq_emod_of_nonneg, hq, Bool.cond_eq_ite, decide_eq_true_eq, Bool.not_eq_true', decide_eq_false_iff_not, Bool.or_eq_true, Bool.and_eq_true, beq_iff_eq]
  repeat' split
  all_goals try (first | omega | rfl | (simp (disch := omega) only [wrap_id, Int.tdiv_eq_ediv_of_nonneg, Int.tmod_eq_emod_of_nonneg, hq]; done) | (simp (disch := omega) only [wrap_id, Int.tdiv_eq_ediv_of_nonneg, Int.tmod_eq_emod_of_nonneg, hq]; omega))

theorem e15_0 {c : List Int} (R : Right c) : v15_0 [List.getD (layM c) 0 0, List.getD (layM c) 1 0, List.getD (layM c) 2 0, List.getD (layM c) 3 0, List.getD (layM c) 4 0, List.getD (layM c) 5 0, List.getD (layM c) 6 0, List.getD (layM c) 7 0, List.getD (layM c) 8 0, List.getD (layM c) 9 0, List.getD (layM c) 10 0, List.getD (layM c) 11 0, List.getD (layM c) 12 0, List.getD (layM c) 13 0, List.getD (layM c) 14 0, List.getD (layM c) 15 0, List.getD (layM c) 16 0, List.getD (layM c) 17 0, List.getD (layM c) 18 0, List.getD (layM c) 19 0, List.getD (layM c) 20 0, List.getD (layM c) 21 0, List.getD (layM c) 22 0] = v41_0 [List.getD c 0 0, List.getD c 1 0, List.getD c 2 0, List.getD c 3 0, List.getD c 4 0, List.getD c 5 0, List.getD c 6 0, List.getD c 7 0, List.getD c 8 0, List.getD c 9 0, List.getD c 10 0] := by
  obtain ⟨r0, r1, r2, r3, r4, r5, r6, r7, r8, r9, r10⟩ := R
  have hM := e_mul (a := i c 1) (b := i c 8 + 1) (m := 8) (n := 9) (by omega) (by omega) (by omega) (by omega)
  unfold v15_0 v41_0 
  simp only [List.getD_cons_zero, List.getD_cons_succ, layM, a11, a10, a9, a8, a7, a6, a1, a0]
  unfold i at *
  generalize c.getD 0 0 = q0 at *
  generalize c.getD 1 0 = q1 at *
  generalize c.getD 2 0 = q2 at *
  generalize c.getD 3 0 = q3 at *
  generalize c.getD 8 0 = q8 at *
  generalize c.getD 9 0 = q9 at *
  have hq : 5 * q1 * (q8 + 1) = 5 * (q1 * (q8 + 1)) := Int.mul_assoc _ _ _
  generalize q1 * (q8 + 1) = M at *
  simp (disch := omega) only [wrap_id, Int.tdiv_eq_ediv_of_nonneg, Int.tmod_eq_emod_of_nonneg, hq, Bool.cond_eq_ite, decide_eq_true_eq, Bool.not_eq_true', decide_eq_false_iff_not, Bool.or_eq_true, Bool.and_eq_true, beq_iff_eq]
  repeat' split
  all_goals try (first | omega | rfl | (simp (disch := omega) only [wrap_id, Int.tdiv_eq_ediv_of_nonneg, Int.tmod_eq_emod_of_nonneg, hq]; done) | (simp (disch := omega) only [wrap_id, Int.tdiv_eq_ediv_of_nonneg, Int.tmod_eq_emod_of_nonneg, hq]; omega))

theorem e38_0 {c : List Int} (R : Right c) : v38_0 [List.getD (layM c) 0 0, List.getD (layM c) 1 0, List.getD (layM c) 2 0, List.getD (layM c) 3 0, List.getD (layM c) 4 0, List.getD (layM c) 5 0, List.getD (layM c) 6 0, List.getD (layM c) 7 0, List.getD (layM c) 8 0, List.getD (layM c) 9 0, List.getD (layM c) 10 0, List.getD (layM c) 11 0, List.getD (layM c) 12 0, List.getD (layM c) 13 0, List.getD (layM c) 14 0, List.getD (layM c) 15 0, List.getD (layM c) 16 0, List.getD (layM c) 17 0, List.getD (layM c) 18 0, List.getD (layM c) 19 0, List.getD (layM c) 20 0, List.getD (layM c) 21 0, List.getD (layM c) 22 0] = v42_0 [List.getD c 0 0, List.getD c 1 0, List.getD c 2 0, List.getD c 3 0, List.getD c 4 0, List.getD c 5 0, List.getD c 6 0, List.getD c 7 0, List.getD c 8 0, List.getD c 9 0, List.getD c 10 0] := by
  obtain ⟨r0, r1, r2, r3, r4, r5, r6, r7, r8, r9, r10⟩ := R
  have hM := e_mul (a := i c 1) (b := i c 8 + 1) (m := 8) (n := 9) (by omega) (by omega) (by omega) (by omega)
  unfold v38_0 v42_0 
  simp only [List.getD_cons_zero, List.getD_cons_succ, layM, a11, a10, a9, a8, a7, a6, a1, a0]
  unfold i at *
  generalize c.getD 0 0 = q0 at *
  generalize c.getD 1 0 = q1 at *
  generalize c.getD 2 0 = q2 at *
  generalize c.getD 3 0 = q3 at *
  generalize c.getD 8 0 = q8 at *
  generalize c.getD 9 0 = q9 at *
  have hq : 5 * q1 * (q8 + 1) = 5 * (q1 * (q8 + 1)) := Int.mul_assoc _ _ _
  generalize q1 * (q8 + 1) = M at *
  simp (disch := omega) only [wrap_id, Int.tdiv_eq_ediv_of_nonneg, Int.tmod_eq_emod_of_nonneg, hq, Bool.cond_eq_ite, decide_eq_true_eq, Bool.not_eq_true', decide_eq_false_iff_not, Bool.or_eq_true, Bool.and_eq_true, beq_iff_eq]
  repeat' split
  all_goals try (first | omega | rfl | (simp (disch := omega) only [wrap_id, Int.tdiv_eq_ediv_of_nonneg, Int.tmod_eq_emod_of_nonneg, hq]; done) | (simp (disch := omega) only [wrap_id, Int.tdiv_eq_ediv_of_nonneg, Int.tmod_eq_emod_of_nonneg, hq]; omega))

theorem e39_0 {c : List Int} (R : Right c) (p : Int) : v39_0 [List.getD (layM c) 0 0, List.getD (layM c) 1 0, List.getD (layM c) 2 0, List.getD (layM c) 3 0, List.getD (layM c) 4 0, List.getD (layM c) 5 0, List.getD (layM c) 6 0, List.getD (layM c) 7 0, List.getD (layM c) 8 0, List.getD (layM c) 9 0, List.getD (layM c) 10 0, List.getD (layM c) 11 0, List.getD (layM c) 12 0, List.getD (layM c) 13 0, List.getD (layM c) 14 0, List.getD (layM c) 15 0, List.getD (layM c) 16 0, List.getD (layM c) 17 0, List.getD (layM c) 18 0, List.getD (layM c) 19 0, List.getD (layM c) 20 0, List.getD (layM c) 21 0, List.getD (layM c) 22 0, p] = v49_0 [List.getD c 0 0, List.getD c 1 0, List.getD c 2 0, List.getD c 3 0, List.getD c 4 0, List.getD c 5 0, List.getD c 6 0, List.getD c 7 0, List.getD c 8 0, List.getD c 9 0, List.getD c 10 0, p] := by
  obtain ⟨r0, r1, r2, r3, r4, r5, r6, r7, r8, r9, r10⟩ := R
  have hM := e_mul (a := i c 1) (b := i c 8 + 1) (m := 8) (n := 9) (by omega) (by omega) (by omega) (by omega)
  unfold v39_0 v49_0 
  simp only [List.getD_cons_zero, List.getD_cons_succ, layM, a11, a10, a9, a8, a7, a6, a1, a0]
  unfold i at *
  generalize c.getD 0 0 = q0 at *
  generalize c.getD 1 0 = q1 at *
  generalize c.getD 2 0 = q2 at *
  generalize c.getD 3 0 = q3 at *
  generalize c.getD 8 0 = q8 at *
  generalize c.getD 9 0 = q9 at *
  have hq : 5 * q1 * (q8 + 1) = 5 * (q1 * (q8 + 1)) := Int.mul_assoc _ _ _
  generalize q1 * (q8 + 1) = M at *
  simp (disch := omega) only [wrap_id, Int.tdiv_eq_ediv_of_nonneg, Int.tmod_eq_emod_of_nonneg, hq, Bool.cond_eq_ite, decide_eq_true_eq, Bool.not_eq_true', decide_eq_false_iff_not, Bool.or_eq_true, Bool.and_eq_true, beq_iff_eq]
  repeat' split
  all_goals try (first | omega | rfl | (simp (disch := omega) only [wrap_id, Int.tdiv_eq_ediv_of_nonneg, Int.tmod_eq_emod_of_nonneg, hq]; done) | (simp (disch := omega) only [wrap_id, Int.tdiv_eq_ediv_of_nonneg, Int.tmod_eq_emod_of_nonneg, hq]; omega))

theorem e45_0 {c : List Int} (R : Right c) (p : Int) : v45_0 [List.getD (layM c) 0 0, List.getD (layM c) 1 0, List.getD (layM c) 2 0, List.getD (layM c) 3 0, List.getD (layM c) 4 0, List.getD (layM c) 5 0, List.getD (layM c) 6 0, List.getD (layM c) 7 0, List.getD (layM c) 8 0, List.getD (layM c) 9 0, List.getD (layM c) 10 0, List.getD (layM c) 11 0, List.getD (layM c) 12 0, List.getD (layM c) 13 0, List.getD (layM c) 14 0, List.getD (layM c) 15 0, List.getD (layM c) 16 0, List.getD (layM c) 17 0, List.getD (layM c) 18 0, List.getD (layM c) 19 0, List.getD (layM c) 20 0, List.getD (layM c) 21 0, List.getD (layM c) 22 0, p] = v48_0 [List.getD c 0 0, List.getD c 1 0, List.getD c 2 0, List.getD c 3 0, List.getD c 4 0, List.getD c 5 0, List.getD c 6 0, List.getD c 7 0, List.getD c 8 0, List.getD c 9 0, List.getD c 10 0, p] := by
  obtain ⟨r0, r1, r2, r3, r4, r5, r6, r7, r8, r9, r10⟩ := R
  have hM := e_mul (a := i c 1) (b := i c 8 + 1) (m := 8) (n := 9) (by omega) (by omega) (by omega) (by omega)
  unfold v45_0 v48_0 
  simp only [List.getD_cons_zero, List.getD_cons_succ, layM, a11, a10, a9, a8, a7, a6, a1, a0]
  unfold i at *
  generalize c.getD 0 0 = q0 at *
  generalize c.getD 1 0 = q1 at *
  generalize c.getD 2 0 = q2 at *
  generalize c.getD 3 0 = q3 at *
  generalize c.getD 8 0 = q8 at *
  generalize c.getD 9 0 = q9 at *
  have hq : 5 * q1 * (q8 + 1) = 5 * (q1 * (q8 + 1)) := Int.mul_assoc _ _ _
  generalize q1 * (q8 + 1) = M at *
  simp (disch := omega) only [wrap_id, Int.tdiv_eq_ediv_of_nonneg, Int.tmod_eq_emod_of_nonneg, hq, Bool.cond_eq_ite, decide_eq_true_eq, Bool.not_eq_true', decide_eq_false_iff_not, Bool.or_eq_true, Bool.and_eq_true, beq_iff_eq]
  repeat' split
  all_goals try (first | omega | rfl | (simp (disch := omega) only [wrap_id, Int.tdiv_eq_ediv_of_nonneg, Int.tmod_eq_emod_of_nonneg, hq]; done) | (simp (disch := omega) only [wrap_id, Int.tdiv_eq_ediv_of_nonneg, Int.tmod_eq_emod_of_nonneg, hq]; omega))

theorem e44_0 {c : List Int} (R : Right c) (p : Int) (q : Int) : v44_0 [List.getD (layM c) 0 0, List.getD (layM c) 1 0, List.getD (layM c) 2 0, List.getD (layM c) 3 0, List.getD (layM c) 4 0, List.getD (layM c) 5 0, List.getD (layM c) 6 0, List.getD (layM c) 7 0, List.getD (layM c) 8 0, List.getD (layM c) 9 0, List.getD (layM c) 10 0, List.getD (layM c) 11 0, List.getD (layM c) 12 0, List.getD (layM c) 13 0, List.getD (layM c) 14 0, List.getD (layM c) 15 0, List.getD (layM c) 16 0, List.getD (layM c) 17 0, List.getD (layM c) 18 0, List.getD (layM c) 19 0, List.getD (layM c) 20 0, List.getD (layM c) 21 0, List.getD (layM c) 22 0, p, q] = v47_0 [List.getD c 0 0, List.getD c 1 0, List.getD c 2 0, List.getD c 3 0, List.getD c 4 0, List.getD c 5 0, List.getD c 6 0, List.getD c 7 0, List.getD c 8 0, List.getD c 9 0, List.getD c 10 0, p, q] := by
  obtain ⟨r0, r1, r2, r3, r4, r5, r6, r7, r8, r9, r10⟩ := R
  have hM := e_mul (a := i c 1) (b := i c 8 + 1) (m := 8) (n := 9) (by omega) (by omega) (by omega) (by omega)
  unfold v44_0 v47_0 
  simp only [List.getD_cons_zero, List.getD_cons_succ, layM, a11, a10, a9, a8, a7, a6, a1, a0]
  unfold i at *
  generalize c.getD 0 0 = q0 at *
  generalize c.getD 1 0 = q1 at *
  generalize c.getD 2 0 = q2 at *
  generalize c.getD 3 0 = q3 at *
  generalize c.getD 8 0 = q8 at *
  generalize c.getD 9 0 = q9 at *
  have hq : 5 * q1 * (q8 + 1) = 5 * (q1 * (q8 + 1)) := Int.mul_assoc _ _ _
  generalize q1 * (q8 + 1) = M at *
  simp (disch := omega) only [wrap_id, Int.tdiv_eq_ediv_of_nonneg, Int.tmod_eq_emod_of_nonneg, hq, Bool.cond_eq_ite, decide_eq_true_eq, Bool.not_eq_true', decide_eq_false_iff_not, Bool.or_eq_true, Bool.and_eq_true, beq_iff_eq]
  repeat' split
  all_goals try (first | omega | rfl | (simp (disch := omega) only [wrap_id, Int.tdiv_eq_ediv_of_nonneg, Int.tmod_eq_emod_of_nonneg, hq]; done) | (simp (disch := omega) only [wrap_id, Int.tdiv_eq_ediv_of_nonneg, Int.tmod_eq_emod_of_nonneg, hq]; omega))

theorem e37_0 {c : List Int} (R : Right c) (p : Int) : v37_0 [List.getD (layM c) 0 0, List.getD (layM c) 1 0, List.getD (layM c) 2 0, List.getD (layM c) 3 0, List.getD (layM c) 4 0, List.getD (layM c) 5 0, List.getD (layM c) 6 0, List.getD (layM c) 7 0, List.getD (layM c) 8 0, List.getD (layM c) 9 0, List.getD (layM c) 10 0, List.getD (layM c) 11 0, List.getD (layM c) 12 0, List.getD (layM c) 13 0, List.getD (layM c) 14 0, List.getD (layM c) 15 0, List.getD (layM c) 16 0, List.getD (layM c) 17 0, List.getD (layM c) 18 0, List.getD (layM c) 19 0, List.getD (layM c) 20 0, List.getD (layM c) 21 0, List.getD (layM c) 22 0, p] = v40_0 [List.getD c 0 0, List.getD c 1 0, List.getD c 2 0, List.getD c 3 0, List.getD c 4 0, List.getD c 5 0, List.getD c 6 0, List.getD c 7 0, List.getD c 8 0, List.getD c 9 0, List.getD c 10 0, p] := by
  obtain ⟨r0, r1, r2, r3, r4, r5, r6, r7, r8, r9, r10⟩ := R
  have hM := e_mul (a := i c 1) (b := i c 8 + 1) (m := 8) (n := 9) (by omega) (by omega) (by omega) (by omega)
  unfold v37_0 v40_0 
  simp only [List.getD_cons_zero, List.getD_cons_succ, layM, a11, a10, a9, a8, a7, a6, a1, a0]
  unfold i at *
  generalize c.getD 0 0 = q0 at *
  generalize c.getD 1 0 = q1 at *
  generalize c.getD 2 0 = q2 at *
  generalize c.getD 3 0 = q3 at *
  generalize c.getD 8 0 = q8 at *
  generalize c.getD 9 0 = q9 at *
  have hq : 5 * q1 * (q8 + 1) = 5 * (q1 * (q8 + 1)) := Int.mul_assoc _ _ _
  generalize q1 * (q8 + 1) = M at *
  simp (disch := omega) only [wrap_id, Int.tdiv_eq_ediv_of_nonneg, Int.tmod_eq_emod_of_nonneg, hq, Bool.cond_eq_ite, decide_eq_true_eq, Bool.not_eq_true', decide_eq_false_iff_not, Bool.or_eq_true, Bool.and_eq_true, beq_iff_eq]
  repeat' split
  all_goals try (first | omega | rfl | (simp (disch := omega) only [wrap_id, Int.tdiv_eq_ediv_of_nonneg, Int.tmod_eq_emod_of_nonneg, hq]; done) | (simp (disch := omega) only [wrap_id, Int.tdiv_eq_ediv_of_nonneg, Int.tmod_eq_emod_of_nonneg, hq]; omega))

theorem e37_1 {c : List Int} (R : Right c) (p : Int) : v37_1 [List.getD (layM c) 0 0, List.getD (layM c) 1 0, List.getD (layM c) 2 0, List.getD (layM c) 3 0, List.getD (layM c) 4 0, List.getD (layM c) 5 0, List.getD (layM c) 6 0, List.getD (layM c) 7 0, List.getD (layM c) 8 0, List.getD (layM c) 9 0, List.getD (layM c) 10 0, List.getD (layM c) 11 0, List.getD (layM c) 12 0, List.getD (layM c) 13 0, List.getD (layM c) 14 0, List.getD (layM c) 15 0, List.getD (layM c) 16 0, List.getD (layM c) 17 0, List.getD (layM c) 18 0, List.getD (layM c) 19 0, List.getD (layM c) 20 0, List.getD (layM c) 21 0, List.getD (layM c) 22 0, p] = v40_1 [List.getD c 0 0, List.getD c 1 0, List.getD c 2 0, List.getD c 3 0, List.getD c 4 0, List.getD c 5 0, List.getD c 6 0, List.getD c 7 0, List.getD c 8 0, List.getD c 9 0, List.getD c 10 0, p] := by
  obtain ⟨r0, r1, r2, r3, r4, r5, r6, r7, r8, r9, r10⟩ := R
  have hM := e_mul (a := i c 1) (b := i c 8 + 1) (m := 8) (n := 9) (by omega) (by omega) (by omega) (by omega)
  unfold v37_1 v40_1 
  simp only [List.getD_cons_zero, List.getD_cons_succ, layM, a11, a10, a9, a8, a7, a6, a1, a0]
  unfold i at *
  generalize c.getD 0 0 = q0 at *
  generalize c.getD 1 0 = q1 at *
  generalize c.getD 2 0 = q2 at *
  generalize c.getD 3 0 = q3 at *
  generalize c.getD 8 0 = q8 at *
  generalize c.getD 9 0 = q9 at *
  have hq : 5 * q1 * (q8 + 1) = 5 * (q1 * (q8 + 1)) := Int.mul_assoc _ _ _
  generalize q1 * (q8 + 1) = M at *
  simp (disch := omega) only [wrap_id, Int.tdiv_eq_ediv_of_nonneg, Int.tmod_eq_emod_of_nonneg, hq, Bool.cond_eq_ite, decide_eq_true_eq, Bool.not_eq_true', decide_eq_false_iff_not, Bool.or_eq_true, Bool.and_eq_true, beq_iff_eq]
  repeat' split
  all_goals try (first | omega | rfl | (simp (disch := omega) only [wrap_id, Int.tdiv_eq_ediv_of_nonneg, Int.tmod_eq_emod_of_nonneg, hq]; done) | (simp (disch := omega) only [wrap_id, Int.tdiv_eq_ediv_of_nonneg, Int.tmod_eq_emod_of_nonneg, hq]; omega))

theorem e37_2 {c : List Int} (R : Right c) (p : Int) : v37_2 [List.getD (layM c) 0 0, List.getD (layM c) 1 0, List.getD (layM c) 2 0, List.getD (layM c) 3 0, List.getD (layM c) 4 0, List.getD (layM c) 5 0, List.getD (layM c) 6 0, List.getD (layM c) 7 0, List.getD (layM c) 8 0, List.getD (layM c) 9 0, List.getD (layM c) 10 0, List.getD (layM c) 11 0, List.getD (layM c) 12 0, List.getD (layM c) 13 0, List.getD (layM c) 14 0, List.getD (layM c) 15 0, List.getD (layM c) 16 0, List.getD (layM c) 17 0, List.getD (layM c) 18 0, List.getD (layM c) 19 0, List.getD (layM c) 20 0, List.getD (layM c) 21 0, List.getD (layM c) 22 0, p] = v40_2 [List.getD c 0 0, List.getD c 1 0, List.getD c 2 0, List.getD c 3 0, List.getD c 4 0, List.getD c 5 0, List.getD c 6 0, List.getD c 7 0, List.getD c 8 0, List.getD c 9 0, List.getD c 10 0, p] := by
  obtain ⟨r0, r1, r2, r3, r4, r5, r6, r7, r8, r9, r10⟩ := R
  have hM := e_mul (a := i c 1) (b := i c 8 + 1) (m := 8) (n := 9) (by omega) (by omega) (by omega) (by omega)
  unfold v37_2 v40_2 
  simp only [List.getD_cons_zero, List.getD_cons_succ, layM, a11, a10, a9, a8, a7, a6, a1, a0]
  unfold i at *
  generalize c.getD 0 0 = q0 at *
  generalize c.getD 1 0 = q1 at *
  generalize c.getD 2 0 = q2 at *
  generalize c.getD 3 0 = q3 at *
  generalize c.getD 8 0 = q8 at *
  generalize c.getD 9 0 = q9 at *
  have hq : 5 * q1 * (q8 + 1) = 5 * (q1 * (q8 + 1)) := Int.mul_assoc _ _ _
  generalize q1 * (q8 + 1) = M at *
  simp (disch := omega) only [wrap_id, Int.tdiv_eq_ediv_of_nonneg, Int.tmod_eq_emod_of_nonneg, hq, Bool.cond_eq_ite, decide_eq_true_eq, Bool.not_eq_true', decide_eq_false_iff_not, Bool.or_eq_true, Bool.and_eq_true, beq_iff_eq]
  repeat' split
  all_goals try (first | omega | rfl | (simp (disch := omega) only [wrap_id, Int.tdiv_eq_ediv_of_nonneg, Int.tmod_eq_emod_of_nonneg, hq]; done) | (simp (disch := omega) only [wrap_id, Int.tdiv_eq_ediv_of_nonneg, Int.tmod_eq_emod_of_nonneg, hq]; omega))

theorem e43_0 {c : List Int} (R : Right c) (p : Int) : v43_0 [List.getD (layM c) 0 0, List.getD (layM c) 1 0, List.getD (layM c) 2 0, List.getD (layM c) 3 0, List.getD (layM c) 4 0, List.getD (layM c) 5 0, List.getD (layM c) 6 0, List.getD (layM c) 7 0, List.getD (layM c) 8 0, List.getD (layM c) 9 0, List.getD (layM c) 10 0, List.getD (layM c) 11 0, List.getD (layM c) 12 0, List.getD (layM c) 13 0, List.getD (layM c) 14 0, List.getD (layM c) 15 0, List.getD (layM c) 16 0, List.getD (layM c) 17 0, List.getD (layM c) 18 0, List.getD (layM c) 19 0, List.getD (layM c) 20 0, List.getD (layM c) 21 0, List.getD (layM c) 22 0, p] = v46_0 [List.getD c 0 0, List.getD c 1 0, List.getD c 2 0, List.getD c 3 0, List.getD c 4 0, List.getD c 5 0, List.getD c 6 0, List.getD c 7 0, List.getD c 8 0, List.getD c 9 0, List.getD c 10 0, p] := by
  obtain ⟨r0, r1, r2, r3, r4, r5, r6, r7, r8, r9, r10⟩ := R
  have hM := e_mul (a := i c 1) (b := i c 8 + 1) (m := 8) (n := 9) (by omega) (by omega) (by omega) (by omega)
  unfold v43_0 v46_0 
  simp only [List.getD_cons_zero, List.getD_cons_succ, layM, a11, a10, a9, a8, a7, a6, a1, a0]
  unfold i at *
  generalize c.getD 0 0 = q0 at *
  generalize c.getD 1 0 = q1 at *
  generalize c.getD 2 0 = q2 at *
  generalize c.getD 3 0 = q3 at *
  generalize c.getD 8 0 = q8 at *
  generalize c.getD 9 0 = q9 at *
  have hq : 5 * q1 * (q8 + 1) = 5 * (q1 * (q8 + 1)) := Int.mul_assoc _ _ _
  generalize q1 * (q8 + 1) = M at *
  simp (disch := omega) only [wrap_id, Int.tdiv_eq_ediv_of_nonneg, Int.tmod_eq_emod_of_nonneg, hq, Bool.cond_eq_ite, decide_eq_true_eq, Bool.not_eq_true', decide_eq_false_iff_not, Bool.or_eq_true, Bool.and_eq_true, beq_iff_eq]
  repeat' split
  all_goals try (first | omega | rfl | (simp (disch := omega) only [wrap_id, Int.tdiv_eq_ediv_of_nonneg, Int.tmod_eq_emod_of_nonneg, hq]; done) | (simp (disch := omega) only [wrap_id, Int.tdiv_eq_ediv_of_nonneg, Int.tmod_eq_emod_of_nonneg, hq]; omega))
end Go.Rx
end

section
/- Layer 8: where the laws begin, and the example. -/
namespace Go.Rx
open Go.Proofs
def smallM (xs : List Int) : List Int := [v95_0 xs, v95_1 xs, v95_2 xs, v95_3 xs, v95_4 xs, v95_5 xs, v95_6 xs, v95_7 xs, v95_8 xs, v95_9 xs, v95_10 xs]
/-- A small configuration. -/
structure SmallC (xs c : List Int) : Prop where
  mk ::
  eq : c = smallM xs
structure LayC (c L : List Int) : Prop where
  mk ::
  eq : L = layM c
/-- A function of numbers that tells one of some lists. -/
def gS (sh : List Nat) (pre : List Int → Prop) (P : List Int → List Int → Prop) (f : List Int → V) : Spec where
  tr := fun args H K => match H, shA sh args with
    | [], some xs => pre xs ∧ ∀ c : List Int, P xs c → K (f c) []
    | _, _ => False
def t95 : Spec := gS [11] (fun _ => True) SmallC (fun c => .agg (icV 11 0 c))
def t12 : Spec := gS [11] (fun xs => rightM xs = true) LayC (fun L => .tup [.agg (icV 23 0 L), vi 0])
def t41 : Spec := fS [11] (fun xs => rightM xs = true) (fun xs => vi (a11 xs))
def t14 : Spec := fS [23] (fun _ => True) (fun ys => .agg (icV 11 0 ys))
def t15 : Spec := fS [23] (fun _ => True) (fun ys => vi (i ys 22))
def t85 : Spec := ⟨fun args H K => match H, shA [11] args with
    | [], some xs => ∀ c L : List Int, SmallC xs c → LayC c L → K (.tup [.agg (icV 23 0 L), .agg (icV 11 0 c), .row 0]) [.row 0 (List.replicate (a11 c).toNat (0 : Int)) false]
    | _, _ => False, false⟩
noncomputable def sig85 : FuncId → Option Spec := fun f => match f with
  | 12 => some t12
  | 41 => some t41
  | 95 => some t95
  | _ => none
noncomputable def cfg85 : Cfg := { cfgB with
  sigs := sig85
  flag := fun d => Nat.beq d 2 || Nat.beq d 3
  planT := fun r => match r with | 4 => some (chainT [0, 1, 2, 3] (.alt (chainT [4, 5, 6, 7] .fin) (chainT [5] (.alt (chainT [4, 6, 7] .fin) (chainT [6, 4, 7] .fin)))), 3) | _ => none }
/-- view.Do of the example, of any layout. -/
def do87A : Spec := ⟨fun args H K => match args, H with
  | [.row 0, .fn 87 [.ptr 1 0, .ptr 2 0]], [.row 0 ws true, .cells U1 lv, .cells U2 [.ext (.int .i64 _)]] => match shA [23] [.agg lv] with
    | some ys => Nat.ble ws.length 1048576 = true ∧ need8 ws ys ∧
      ∀ nd : List Pr, K (.tup [.row 3, .row 4, vi 0]) [.row 0 ws true, .cells U1 lv, .cells U2 [vi (ensM ws (i ys 2) (i ys 11) 3 2).1], .row 0 (ensM ws (i ys 2) (i ys 11) 3 2).2 false, .row 2 nd false]
    | none => False
  | _, _ => False, true⟩
noncomputable def sig65 : FuncId → Option Spec := fun f => match f with
  | 12 => some t12
  | 14 => some t14
  | 15 => some t15
  | 20 => some t20
  | 85 => some t85
  | 86 => some do87A
  | _ => none
noncomputable def cfg65 : Cfg := { cfgB with sigs := sig65 }
end Go.Rx
end

section
/- Normal forms of the program's code (by a program of this session's; the kernel checks each). -/
namespace Go.Rx
open Go.Proofs
set_option maxRecDepth 100000
theorem nf85 (xs : List Int) (K : V → Heap → Prop) : (exF cfg85 Try.f85 (mkA [11] 0 xs) [] K) = (
    ((
      True) ∧ (
      ∀ (y0 : List Int), (
        ((Go.Rx.SmallC [List.getD xs 0 0, List.getD xs 1 0, List.getD xs 2 0, List.getD xs 3 0, List.getD xs 4 0, List.getD xs 5 0, List.getD xs 6 0, List.getD xs 7 0, List.getD xs 8 0, List.getD xs 9 0, List.getD xs 10 0] y0) → (
          ((
            (Go.Rx.rightM [List.getD y0 0 0, List.getD y0 1 0, List.getD y0 2 0, List.getD y0 3 0, List.getD y0 4 0, List.getD y0 5 0, List.getD y0 6 0, List.getD y0 7 0, List.getD y0 8 0, List.getD y0 9 0, List.getD y0 10 0] = Bool.true)) ∧ (
            ∀ (y1 : List Int), (
              ((Go.Rx.LayC [List.getD y0 0 0, List.getD y0 1 0, List.getD y0 2 0, List.getD y0 3 0, List.getD y0 4 0, List.getD y0 5 0, List.getD y0 6 0, List.getD y0 7 0, List.getD y0 8 0, List.getD y0 9 0, List.getD y0 10 0] y1) → (
                ((
                  (Go.Rx.rightM [List.getD y0 0 0, List.getD y0 1 0, List.getD y0 2 0, List.getD y0 3 0, List.getD y0 4 0, List.getD y0 5 0, List.getD y0 6 0, List.getD y0 7 0, List.getD y0 8 0, List.getD y0 9 0, List.getD y0 10 0] = Bool.true)) ∧ (
                  ((
                    Req (Decidable.decide (0 ≤ Go.Rx.a11 [List.getD y0 0 0, List.getD y0 1 0, List.getD y0 2 0, List.getD y0 3 0, List.getD y0 4 0, List.getD y0 5 0, List.getD y0 6 0, List.getD y0 7 0, List.getD y0 8 0, List.getD y0 9 0, List.getD y0 10 0] ∧ Go.Rx.a11 [List.getD y0 0 0, List.getD y0 1 0, List.getD y0 2 0, List.getD y0 3 0, List.getD y0 4 0, List.getD y0 5 0, List.getD y0 6 0, List.getD y0 7 0, List.getD y0 8 0, List.getD y0 9 0, List.getD y0 10 0] ≤ Go.Rx.a11 [List.getD y0 0 0, List.getD y0 1 0, List.getD y0 2 0, List.getD y0 3 0, List.getD y0 4 0, List.getD y0 5 0, List.getD y0 6 0, List.getD y0 7 0, List.getD y0 8 0, List.getD y0 9 0, List.getD y0 10 0] ∧ Go.Rx.a11 [List.getD y0 0 0, List.getD y0 1 0, List.getD y0 2 0, List.getD y0 3 0, List.getD y0 4 0, List.getD y0 5 0, List.getD y0 6 0, List.getD y0 7 0, List.getD y0 8 0, List.getD y0 9 0, List.getD y0 10 0] ≤ 1048576))
                      (
                      K (.tup [.agg [vi (List.getD y1 0 0), vi (List.getD y1 1 0), vi (List.getD y1 2 0), vi (List.getD y1 3 0), vi (List.getD y1 4 0), vi (List.getD y1 5 0), vi (List.getD y1 6 0), vi (List.getD y1 7 0), vi (List.getD y1 8 0), vi (List.getD y1 9 0), vi (List.getD y1 10 0), vi (List.getD y1 11 0), vi (List.getD y1 12 0), vi (List.getD y1 13 0), vi (List.getD y1 14 0), vi (List.getD y1 15 0), vi (List.getD y1 16 0), vi (List.getD y1 17 0), vi (List.getD y1 18 0), vi (List.getD y1 19 0), vi (List.getD y1 20 0), vi (List.getD y1 21 0), vi (List.getD y1 22 0)], .agg [vi (List.getD y0 0 0), vi (List.getD y0 1 0), vi (List.getD y0 2 0), vi (List.getD y0 3 0), vi (List.getD y0 4 0), vi (List.getD y0 5 0), vi (List.getD y0 6 0), vi (List.getD y0 7 0), vi (List.getD y0 8 0), vi (List.getD y0 9 0), vi (List.getD y0 10 0)], .row 0]) [.row 0 (List.replicate (Int.toNat (Go.Rx.a11 [List.getD y0 (0 : Nat) (0 : Int), List.getD y0 (1 : Nat) (0 : Int), List.getD y0 (2 : Nat) (0 : Int), List.getD y0 (3 : Nat) (0 : Int), List.getD y0 (4 : Nat) (0 : Int), List.getD y0 (5 : Nat) (0 : Int), List.getD y0 (6 : Nat) (0 : Int), List.getD y0 (7 : Nat) (0 : Int), List.getD y0 (8 : Nat) (0 : Int), List.getD y0 (9 : Nat) (0 : Int), List.getD y0 (10 : Nat) (0 : Int)])) (0 : Int) : List (Int)) Bool.false])) ∧ (
                    ((
                      Req (Decidable.decide (0 ≤ Go.Rx.a11 [List.getD y0 0 0, List.getD y0 1 0, List.getD y0 2 0, List.getD y0 3 0, List.getD y0 4 0, List.getD y0 5 0, List.getD y0 6 0, List.getD y0 7 0, List.getD y0 8 0, List.getD y0 9 0, List.getD y0 10 0] ∧ Go.Rx.a11 [List.getD y0 0 0, List.getD y0 1 0, List.getD y0 2 0, List.getD y0 3 0, List.getD y0 4 0, List.getD y0 5 0, List.getD y0 6 0, List.getD y0 7 0, List.getD y0 8 0, List.getD y0 9 0, List.getD y0 10 0] ≤ Go.Rx.a11 [List.getD y0 0 0, List.getD y0 1 0, List.getD y0 2 0, List.getD y0 3 0, List.getD y0 4 0, List.getD y0 5 0, List.getD y0 6 0, List.getD y0 7 0, List.getD y0 8 0, List.getD y0 9 0, List.getD y0 10 0] ∧ Go.Rx.a11 [List.getD y0 0 0, List.getD y0 1 0, List.getD y0 2 0, List.getD y0 3 0, List.getD y0 4 0, List.getD y0 5 0, List.getD y0 6 0, List.getD y0 7 0, List.getD y0 8 0, List.getD y0 9 0, List.getD y0 10 0] ≤ 1048576))
                        (
                        K (.tup [.agg [vi (List.getD y1 0 0), vi (List.getD y1 1 0), vi (List.getD y1 2 0), vi (List.getD y1 3 0), vi (List.getD y1 4 0), vi (List.getD y1 5 0), vi (List.getD y1 6 0), vi (List.getD y1 7 0), vi (List.getD y1 8 0), vi (List.getD y1 9 0), vi (List.getD y1 10 0), vi (List.getD y1 11 0), vi (List.getD y1 12 0), vi (List.getD y1 13 0), vi (List.getD y1 14 0), vi (List.getD y1 15 0), vi (List.getD y1 16 0), vi (List.getD y1 17 0), vi (List.getD y1 18 0), vi (List.getD y1 19 0), vi (List.getD y1 20 0), vi (List.getD y1 21 0), vi (List.getD y1 22 0)], .agg [vi (List.getD y0 0 0), vi (List.getD y0 1 0), vi (List.getD y0 2 0), vi (List.getD y0 3 0), vi (List.getD y0 4 0), vi (List.getD y0 5 0), vi (List.getD y0 6 0), vi (List.getD y0 7 0), vi (List.getD y0 8 0), vi (List.getD y0 9 0), vi (List.getD y0 10 0)], .row 0]) [.row 0 (List.replicate (Int.toNat (Go.Rx.a11 [List.getD y0 (0 : Nat) (0 : Int), List.getD y0 (1 : Nat) (0 : Int), List.getD y0 (2 : Nat) (0 : Int), List.getD y0 (3 : Nat) (0 : Int), List.getD y0 (4 : Nat) (0 : Int), List.getD y0 (5 : Nat) (0 : Int), List.getD y0 (6 : Nat) (0 : Int), List.getD y0 (7 : Nat) (0 : Int), List.getD y0 (8 : Nat) (0 : Int), List.getD y0 (9 : Nat) (0 : Int), List.getD y0 (10 : Nat) (0 : Int)])) (0 : Int) : List (Int)) Bool.false])) ∧ (
                      Req (Decidable.decide (0 ≤ Go.Rx.a11 [List.getD y0 0 0, List.getD y0 1 0, List.getD y0 2 0, List.getD y0 3 0, List.getD y0 4 0, List.getD y0 5 0, List.getD y0 6 0, List.getD y0 7 0, List.getD y0 8 0, List.getD y0 9 0, List.getD y0 10 0] ∧ Go.Rx.a11 [List.getD y0 0 0, List.getD y0 1 0, List.getD y0 2 0, List.getD y0 3 0, List.getD y0 4 0, List.getD y0 5 0, List.getD y0 6 0, List.getD y0 7 0, List.getD y0 8 0, List.getD y0 9 0, List.getD y0 10 0] ≤ Go.Rx.a11 [List.getD y0 0 0, List.getD y0 1 0, List.getD y0 2 0, List.getD y0 3 0, List.getD y0 4 0, List.getD y0 5 0, List.getD y0 6 0, List.getD y0 7 0, List.getD y0 8 0, List.getD y0 9 0, List.getD y0 10 0] ∧ Go.Rx.a11 [List.getD y0 0 0, List.getD y0 1 0, List.getD y0 2 0, List.getD y0 3 0, List.getD y0 4 0, List.getD y0 5 0, List.getD y0 6 0, List.getD y0 7 0, List.getD y0 8 0, List.getD y0 9 0, List.getD y0 10 0] ≤ 1048576))
                        (
                        K (.tup [.agg [vi (List.getD y1 0 0), vi (List.getD y1 1 0), vi (List.getD y1 2 0), vi (List.getD y1 3 0), vi (List.getD y1 4 0), vi (List.getD y1 5 0), vi (List.getD y1 6 0), vi (List.getD y1 7 0), vi (List.getD y1 8 0), vi (List.getD y1 9 0), vi (List.getD y1 10 0), vi (List.getD y1 11 0), vi (List.getD y1 12 0), vi (List.getD y1 13 0), vi (List.getD y1 14 0), vi (List.getD y1 15 0), vi (List.getD y1 16 0), vi (List.getD y1 17 0), vi (List.getD y1 18 0), vi (List.getD y1 19 0), vi (List.getD y1 20 0), vi (List.getD y1 21 0), vi (List.getD y1 22 0)], .agg [vi (List.getD y0 0 0), vi (List.getD y0 1 0), vi (List.getD y0 2 0), vi (List.getD y0 3 0), vi (List.getD y0 4 0), vi (List.getD y0 5 0), vi (List.getD y0 6 0), vi (List.getD y0 7 0), vi (List.getD y0 8 0), vi (List.getD y0 9 0), vi (List.getD y0 10 0)], .row 0]) [.row 0 (List.replicate (Int.toNat (Go.Rx.a11 [List.getD y0 (0 : Nat) (0 : Int), List.getD y0 (1 : Nat) (0 : Int), List.getD y0 (2 : Nat) (0 : Int), List.getD y0 (3 : Nat) (0 : Int), List.getD y0 (4 : Nat) (0 : Int), List.getD y0 (5 : Nat) (0 : Int), List.getD y0 (6 : Nat) (0 : Int), List.getD y0 (7 : Nat) (0 : Int), List.getD y0 (8 : Nat) (0 : Int), List.getD y0 (9 : Nat) (0 : Int), List.getD y0 (10 : Nat) (0 : Int)])) (0 : Int) : List (Int)) Bool.false])))))))))))))))))) := by
  kernel_rfl

theorem nf65 (xs : List Int) (K : V → Heap → Prop) : (exF cfg65 Try.f65 (mkA [] 0 xs) [] K) = (
    ∀ (y0 : List Int), (
      ∀ (y1 : List Int), (
        ((Go.Rx.SmallC [0, 0, 4, 0, 0, 0, 0, 0, 0, 0, 0] y0) → (
          ((Go.Rx.LayC y0 y1) → (
            ((
              True) ∧ (
              ((
                (Go.Rx.rightM [List.getD y1 0 0, List.getD y1 1 0, 5, List.getD y1 3 0, List.getD y1 4 0, List.getD y1 5 0, List.getD y1 6 0, List.getD y1 7 0, List.getD y1 8 0, List.getD y1 9 0, List.getD y1 10 0] = Bool.true)) ∧ (
                ∀ (y2 : List Int), (
                  ((Go.Rx.LayC [List.getD y1 0 0, List.getD y1 1 0, 5, List.getD y1 3 0, List.getD y1 4 0, List.getD y1 5 0, List.getD y1 6 0, List.getD y1 7 0, List.getD y1 8 0, List.getD y1 9 0, List.getD y1 10 0] y2) → (
                    ((
                      True) ∧ (
                      Req (Decidable.decide (0 ≤ List.getD y2 22 0 ∧ List.getD y2 22 0 ≤ List.getD y2 22 0 ∧ List.getD y2 22 0 ≤ 1048576))
                        (
                        ((
                          (Nat.ble (List.length (List.replicate (Int.toNat (List.getD y2 (22 : Nat) (0 : Int))) (0 : Int))) (1048576 : Nat) = Bool.true)) ∧ (
                          ((
                            ((
                              (Go.Rx.Lay8 (List.getD y2 2 0) (List.getD y2 11 0) (List.getD y2 22 0))) ∧ (
                              (Int.NonNeg ((↑(List.length (List.replicate (Int.toNat (List.getD y2 (22 : Nat) (0 : Int))) (0 : Int))) : Int) - List.getD y2 (22 : Nat) (0 : Int)))))) ∧ (
                            ∀ (y3 : List Go.Rx.Pr), (
                              br (Prod.fst (Go.Rx.ensM (List.replicate (Int.toNat (List.getD y2 (22 : Nat) (0 : Int))) (0 : Int)) (List.getD y2 (2 : Nat) (0 : Int)) (List.getD y2 (11 : Nat) (0 : Int)) (3 : Int) (2 : Int)) == (5 : Int))
                                (
                                br ((↑(List.length (Prod.snd (Go.Rx.ensM (List.replicate (Int.toNat (List.getD y2 (22 : Nat) (0 : Int))) (0 : Int)) (List.getD y2 (2 : Nat) (0 : Int)) (List.getD y2 (11 : Nat) (0 : Int)) (3 : Int) (2 : Int)))) : Int) == (↑(List.length (List.replicate (Int.toNat (List.getD y2 (22 : Nat) (0 : Int))) (0 : Int))) : Int))
                                  (
                                  ((
                                    (Go.Rx.Lay8 (List.getD y2 2 0) (List.getD y2 11 0) (List.getD y2 22 0))) ∧ (
                                    Req (Go.Rx.inR (Go.Rx.tblI (List.getD y2 (2 : Nat) (0 : Int)) (List.getD y2 (11 : Nat) (0 : Int)) (1 : Int)) (List.length (Prod.snd (Go.Rx.ensM (List.replicate (Int.toNat (List.getD y2 (22 : Nat) (0 : Int))) (0 : Int)) (List.getD y2 (2 : Nat) (0 : Int)) (List.getD y2 (11 : Nat) (0 : Int)) (3 : Int) (2 : Int)))))
                                      (
                                      Req (Go.Rx.inR (Go.Rx.offs (Go.Rx.tblI (List.getD y2 (2 : Nat) (0 : Int)) (List.getD y2 (11 : Nat) (0 : Int)) (1 : Int)) (0 : Nat)) (List.length (Prod.snd (Go.Rx.ensM (List.replicate (Int.toNat (List.getD y2 (22 : Nat) (0 : Int))) (0 : Int)) (List.getD y2 (2 : Nat) (0 : Int)) (List.getD y2 (11 : Nat) (0 : Int)) (3 : Int) (2 : Int)))))
                                        (
                                        K (vb (List.getD (Prod.snd (Go.Rx.ensM (List.replicate (Int.toNat (List.getD y2 (22 : Nat) (0 : Int))) (0 : Int)) (List.getD y2 (2 : Nat) (0 : Int)) (List.getD y2 (11 : Nat) (0 : Int)) (3 : Int) (2 : Int))) (Int.toNat (Go.Rx.offs (Go.Rx.tblI (List.getD y2 (2 : Nat) (0 : Int)) (List.getD y2 (11 : Nat) (0 : Int)) (1 : Int)) (0 : Nat))) (0 : Int) == (1 : Int))) [])))))
                                  (
                                  K (vb (Bool.false)) []))
                                (
                                K (vb (Bool.false)) []))))))))))))))))))))))) := by
  kernel_rfl

end Go.Rx
end

section
/- Normal forms of the program's code (by a program of this session's; the kernel checks each). -/
namespace Go.Rx
open Go.Proofs
set_option maxRecDepth 100000
theorem nf6 (xs : List Int) (K : V → Heap → Prop) : (exF (cfgT 6) Try.f6 (mkA [11, 0, 0] 0 xs) [] K) = (
    ((
      True) ∧ (
      ∀ y0, (
        ∀ y1, (
          ∀ y2, (
            ∀ y3, (
              ∀ y4, (
                ∀ y5, (
                  ∀ y6, (
                    ∀ y7, (
                      ∀ y8, (
                        ∀ y9, (
                          ∀ y10, (
                            ((y0 = Go.Rx.v17_0 [List.getD xs 0 0, List.getD xs 1 0, List.getD xs 2 0, List.getD xs 3 0, List.getD xs 4 0, List.getD xs 5 0, List.getD xs 6 0, List.getD xs 7 0, List.getD xs 8 0, List.getD xs 9 0, List.getD xs 10 0]) → (
                              ((y1 = Go.Rx.v17_1 [List.getD xs 0 0, List.getD xs 1 0, List.getD xs 2 0, List.getD xs 3 0, List.getD xs 4 0, List.getD xs 5 0, List.getD xs 6 0, List.getD xs 7 0, List.getD xs 8 0, List.getD xs 9 0, List.getD xs 10 0]) → (
                                ((y2 = Go.Rx.v17_2 [List.getD xs 0 0, List.getD xs 1 0, List.getD xs 2 0, List.getD xs 3 0, List.getD xs 4 0, List.getD xs 5 0, List.getD xs 6 0, List.getD xs 7 0, List.getD xs 8 0, List.getD xs 9 0, List.getD xs 10 0]) → (
                                  ((y3 = Go.Rx.v17_3 [List.getD xs 0 0, List.getD xs 1 0, List.getD xs 2 0, List.getD xs 3 0, List.getD xs 4 0, List.getD xs 5 0, List.getD xs 6 0, List.getD xs 7 0, List.getD xs 8 0, List.getD xs 9 0, List.getD xs 10 0]) → (
                                    ((y4 = Go.Rx.v17_4 [List.getD xs 0 0, List.getD xs 1 0, List.getD xs 2 0, List.getD xs 3 0, List.getD xs 4 0, List.getD xs 5 0, List.getD xs 6 0, List.getD xs 7 0, List.getD xs 8 0, List.getD xs 9 0, List.getD xs 10 0]) → (
                                      ((y5 = Go.Rx.v17_5 [List.getD xs 0 0, List.getD xs 1 0, List.getD xs 2 0, List.getD xs 3 0, List.getD xs 4 0, List.getD xs 5 0, List.getD xs 6 0, List.getD xs 7 0, List.getD xs 8 0, List.getD xs 9 0, List.getD xs 10 0]) → (
                                        ((y6 = Go.Rx.v17_6 [List.getD xs 0 0, List.getD xs 1 0, List.getD xs 2 0, List.getD xs 3 0, List.getD xs 4 0, List.getD xs 5 0, List.getD xs 6 0, List.getD xs 7 0, List.getD xs 8 0, List.getD xs 9 0, List.getD xs 10 0]) → (
                                          ((y7 = Go.Rx.v17_7 [List.getD xs 0 0, List.getD xs 1 0, List.getD xs 2 0, List.getD xs 3 0, List.getD xs 4 0, List.getD xs 5 0, List.getD xs 6 0, List.getD xs 7 0, List.getD xs 8 0, List.getD xs 9 0, List.getD xs 10 0]) → (
                                            ((y8 = Go.Rx.v17_8 [List.getD xs 0 0, List.getD xs 1 0, List.getD xs 2 0, List.getD xs 3 0, List.getD xs 4 0, List.getD xs 5 0, List.getD xs 6 0, List.getD xs 7 0, List.getD xs 8 0, List.getD xs 9 0, List.getD xs 10 0]) → (
                                              ((y9 = Go.Rx.v17_9 [List.getD xs 0 0, List.getD xs 1 0, List.getD xs 2 0, List.getD xs 3 0, List.getD xs 4 0, List.getD xs 5 0, List.getD xs 6 0, List.getD xs 7 0, List.getD xs 8 0, List.getD xs 9 0, List.getD xs 10 0]) → (
                                                ((y10 = Go.Rx.v17_10 [List.getD xs 0 0, List.getD xs 1 0, List.getD xs 2 0, List.getD xs 3 0, List.getD xs 4 0, List.getD xs 5 0, List.getD xs 6 0, List.getD xs 7 0, List.getD xs 8 0, List.getD xs 9 0, List.getD xs 10 0]) → (
                                                  ((
                                                    ((Go.Rx.rightM [y0, y1, y2, y3, y4, y5, y6, y7, y8, y9, y10] = Bool.true) → (
                                                      ∀ y11, (
                                                        ((y11 = Go.Rx.layM [y0, y1, y2, y3, y4, y5, y6, y7, y8, y9, y10]) → (
                                                          Req (!Go.IntKind.wrap Go.IntKind.u64 y2 == 0)
                                                            (
                                                            ((
                                                              True) ∧ (
                                                              ∀ y12, (
                                                                ((y12 = Go.Rx.v34_0 [List.getD y11 0 0, List.getD y11 1 0, List.getD y11 2 0, List.getD y11 3 0, List.getD y11 4 0, List.getD y11 5 0, List.getD y11 6 0, List.getD y11 7 0, List.getD y11 8 0, List.getD y11 9 0, List.getD y11 10 0, List.getD y11 11 0, List.getD y11 12 0, List.getD y11 13 0, List.getD y11 14 0, List.getD y11 15 0, List.getD y11 16 0, List.getD y11 17 0, List.getD y11 18 0, List.getD y11 19 0, List.getD y11 20 0, List.getD y11 21 0, List.getD y11 22 0, Go.IntKind.wrap Go.IntKind.i64 (Int.tmod (Go.IntKind.wrap Go.IntKind.u64 (List.getD xs 11 0)) (Go.IntKind.wrap Go.IntKind.u64 y2))]) → (
                                                                  ((
                                                                    True) ∧ (
                                                                    ∀ y13, (
                                                                      ∀ y14, (
                                                                        ∀ y15, (
                                                                          ((y13 = Go.Rx.v37_0 [List.getD y11 0 0, List.getD y11 1 0, List.getD y11 2 0, List.getD y11 3 0, List.getD y11 4 0, List.getD y11 5 0, List.getD y11 6 0, List.getD y11 7 0, List.getD y11 8 0, List.getD y11 9 0, List.getD y11 10 0, List.getD y11 11 0, List.getD y11 12 0, List.getD y11 13 0, List.getD y11 14 0, List.getD y11 15 0, List.getD y11 16 0, List.getD y11 17 0, List.getD y11 18 0, List.getD y11 19 0, List.getD y11 20 0, List.getD y11 21 0, List.getD y11 22 0, Go.IntKind.wrap Go.IntKind.i64 (y12 + Go.IntKind.wrap Go.IntKind.i64 (Int.tmod (Go.IntKind.wrap Go.IntKind.u64 (List.getD xs 12 0)) 32))]) → (
                                                                            ((y14 = Go.Rx.v37_1 [List.getD y11 0 0, List.getD y11 1 0, List.getD y11 2 0, List.getD y11 3 0, List.getD y11 4 0, List.getD y11 5 0, List.getD y11 6 0, List.getD y11 7 0, List.getD y11 8 0, List.getD y11 9 0, List.getD y11 10 0, List.getD y11 11 0, List.getD y11 12 0, List.getD y11 13 0, List.getD y11 14 0, List.getD y11 15 0, List.getD y11 16 0, List.getD y11 17 0, List.getD y11 18 0, List.getD y11 19 0, List.getD y11 20 0, List.getD y11 21 0, List.getD y11 22 0, Go.IntKind.wrap Go.IntKind.i64 (y12 + Go.IntKind.wrap Go.IntKind.i64 (Int.tmod (Go.IntKind.wrap Go.IntKind.u64 (List.getD xs 12 0)) 32))]) → (
                                                                              ((y15 = Go.Rx.v37_2 [List.getD y11 0 0, List.getD y11 1 0, List.getD y11 2 0, List.getD y11 3 0, List.getD y11 4 0, List.getD y11 5 0, List.getD y11 6 0, List.getD y11 7 0, List.getD y11 8 0, List.getD y11 9 0, List.getD y11 10 0, List.getD y11 11 0, List.getD y11 12 0, List.getD y11 13 0, List.getD y11 14 0, List.getD y11 15 0, List.getD y11 16 0, List.getD y11 17 0, List.getD y11 18 0, List.getD y11 19 0, List.getD y11 20 0, List.getD y11 21 0, List.getD y11 22 0, Go.IntKind.wrap Go.IntKind.i64 (y12 + Go.IntKind.wrap Go.IntKind.i64 (Int.tmod (Go.IntKind.wrap Go.IntKind.u64 (List.getD xs 12 0)) 32))]) → (
                                                                                br (Int.tmod y12 32 != 0)
                                                                                  (
                                                                                  K (vb (Bool.false)) [])
                                                                                  (
                                                                                  br (Int.tmod (Go.IntKind.wrap Go.IntKind.i64 (Int.tmod (Go.IntKind.wrap Go.IntKind.u64 (List.getD xs 11 0)) (Go.IntKind.wrap Go.IntKind.u64 y2))) 4 == 0)
                                                                                    (
                                                                                    br (Int.tmod y12 128 != 0)
                                                                                      (
                                                                                      K (vb (Bool.false)) [])
                                                                                      (
                                                                                      ((
                                                                                        True) ∧ (
                                                                                        ∀ y16, (
                                                                                          ((y16 = Go.Rx.v38_0 [List.getD y11 0 0, List.getD y11 1 0, List.getD y11 2 0, List.getD y11 3 0, List.getD y11 4 0, List.getD y11 5 0, List.getD y11 6 0, List.getD y11 7 0, List.getD y11 8 0, List.getD y11 9 0, List.getD y11 10 0, List.getD y11 11 0, List.getD y11 12 0, List.getD y11 13 0, List.getD y11 14 0, List.getD y11 15 0, List.getD y11 16 0, List.getD y11 17 0, List.getD y11 18 0, List.getD y11 19 0, List.getD y11 20 0, List.getD y11 21 0, List.getD y11 22 0]) → (
                                                                                            br (Decidable.decide (y12 < y16))
                                                                                              (
                                                                                              K (vb (Bool.false)) [])
                                                                                              (
                                                                                              br (y15)
                                                                                                (
                                                                                                br (y13 == Go.IntKind.wrap Go.IntKind.i64 (Int.tmod (Go.IntKind.wrap Go.IntKind.u64 (List.getD xs 11 0)) (Go.IntKind.wrap Go.IntKind.u64 y2)))
                                                                                                  (
                                                                                                  br (y14 == Go.IntKind.wrap Go.IntKind.i64 (Int.tmod (Go.IntKind.wrap Go.IntKind.u64 (List.getD xs 12 0)) 32))
                                                                                                    (
                                                                                                    ((
                                                                                                      True) ∧ (
                                                                                                      ∀ y17, (
                                                                                                        ((y17 = Go.Rx.v39_0 [List.getD y11 0 0, List.getD y11 1 0, List.getD y11 2 0, List.getD y11 3 0, List.getD y11 4 0, List.getD y11 5 0, List.getD y11 6 0, List.getD y11 7 0, List.getD y11 8 0, List.getD y11 9 0, List.getD y11 10 0, List.getD y11 11 0, List.getD y11 12 0, List.getD y11 13 0, List.getD y11 14 0, List.getD y11 15 0, List.getD y11 16 0, List.getD y11 17 0, List.getD y11 18 0, List.getD y11 19 0, List.getD y11 20 0, List.getD y11 21 0, List.getD y11 22 0, Go.IntKind.wrap Go.IntKind.i64 (y12 + Go.IntKind.wrap Go.IntKind.i64 (Int.tmod (Go.IntKind.wrap Go.IntKind.u64 (List.getD xs 12 0)) 32))]) → (
                                                                                                          ((
                                                                                                            True) ∧ (
                                                                                                            ∀ y18, (
                                                                                                              ((y18 = Go.Rx.v39_0 [List.getD y11 0 0, List.getD y11 1 0, List.getD y11 2 0, List.getD y11 3 0, List.getD y11 4 0, List.getD y11 5 0, List.getD y11 6 0, List.getD y11 7 0, List.getD y11 8 0, List.getD y11 9 0, List.getD y11 10 0, List.getD y11 11 0, List.getD y11 12 0, List.getD y11 13 0, List.getD y11 14 0, List.getD y11 15 0, List.getD y11 16 0, List.getD y11 17 0, List.getD y11 18 0, List.getD y11 19 0, List.getD y11 20 0, List.getD y11 21 0, List.getD y11 22 0, y12]) → (
                                                                                                                br (y17 == Go.IntKind.wrap Go.IntKind.i64 (y18 + Go.IntKind.wrap Go.IntKind.i64 (Int.tmod (Go.IntKind.wrap Go.IntKind.u64 (List.getD xs 12 0)) 32)))
                                                                                                                  (
                                                                                                                  ((
                                                                                                                    True) ∧ (
                                                                                                                    ∀ y19, (
                                                                                                                      ((y19 = Go.Rx.v15_0 [List.getD y11 0 0, List.getD y11 1 0, List.getD y11 2 0, List.getD y11 3 0, List.getD y11 4 0, List.getD y11 5 0, List.getD y11 6 0, List.getD y11 7 0, List.getD y11 8 0, List.getD y11 9 0, List.getD y11 10 0, List.getD y11 11 0, List.getD y11 12 0, List.getD y11 13 0, List.getD y11 14 0, List.getD y11 15 0, List.getD y11 16 0, List.getD y11 17 0, List.getD y11 18 0, List.getD y11 19 0, List.getD y11 20 0, List.getD y11 21 0, List.getD y11 22 0]) → (
                                                                                                                        br (Decidable.decide (Go.IntKind.wrap Go.IntKind.i64 (y12 + Go.IntKind.wrap Go.IntKind.i64 (Int.tmod (Go.IntKind.wrap Go.IntKind.u64 (List.getD xs 12 0)) 32)) < y19))
                                                                                                                          (
                                                                                                                          ((
                                                                                                                            True) ∧ (
                                                                                                                            K (vb (Bool.true)) [])))
                                                                                                                          (
                                                                                                                          K (vb (Bool.false)) [])))))))
                                                                                                                  (
                                                                                                                  K (vb (Bool.false)) []))))))))))))
                                                                                                    (
                                                                                                    K (vb (Bool.false)) []))
                                                                                                  (
                                                                                                  K (vb (Bool.false)) []))
                                                                                                (
                                                                                                K (vb (Bool.false)) [])))))))))
                                                                                    (
                                                                                    ((
                                                                                      True) ∧ (
                                                                                      ∀ y20, (
                                                                                        ((y20 = Go.Rx.v38_0 [List.getD y11 0 0, List.getD y11 1 0, List.getD y11 2 0, List.getD y11 3 0, List.getD y11 4 0, List.getD y11 5 0, List.getD y11 6 0, List.getD y11 7 0, List.getD y11 8 0, List.getD y11 9 0, List.getD y11 10 0, List.getD y11 11 0, List.getD y11 12 0, List.getD y11 13 0, List.getD y11 14 0, List.getD y11 15 0, List.getD y11 16 0, List.getD y11 17 0, List.getD y11 18 0, List.getD y11 19 0, List.getD y11 20 0, List.getD y11 21 0, List.getD y11 22 0]) → (
                                                                                          br (Decidable.decide (y12 < y20))
                                                                                            (
                                                                                            K (vb (Bool.false)) [])
                                                                                            (
                                                                                            br (y15)
                                                                                              (
                                                                                              br (y13 == Go.IntKind.wrap Go.IntKind.i64 (Int.tmod (Go.IntKind.wrap Go.IntKind.u64 (List.getD xs 11 0)) (Go.IntKind.wrap Go.IntKind.u64 y2)))
                                                                                                (
                                                                                                br (y14 == Go.IntKind.wrap Go.IntKind.i64 (Int.tmod (Go.IntKind.wrap Go.IntKind.u64 (List.getD xs 12 0)) 32))
                                                                                                  (
                                                                                                  ((
                                                                                                    True) ∧ (
                                                                                                    ∀ y21, (
                                                                                                      ((y21 = Go.Rx.v39_0 [List.getD y11 0 0, List.getD y11 1 0, List.getD y11 2 0, List.getD y11 3 0, List.getD y11 4 0, List.getD y11 5 0, List.getD y11 6 0, List.getD y11 7 0, List.getD y11 8 0, List.getD y11 9 0, List.getD y11 10 0, List.getD y11 11 0, List.getD y11 12 0, List.getD y11 13 0, List.getD y11 14 0, List.getD y11 15 0, List.getD y11 16 0, List.getD y11 17 0, List.getD y11 18 0, List.getD y11 19 0, List.getD y11 20 0, List.getD y11 21 0, List.getD y11 22 0, Go.IntKind.wrap Go.IntKind.i64 (y12 + Go.IntKind.wrap Go.IntKind.i64 (Int.tmod (Go.IntKind.wrap Go.IntKind.u64 (List.getD xs 12 0)) 32))]) → (
                                                                                                        ((
                                                                                                          True) ∧ (
                                                                                                          ∀ y22, (
                                                                                                            ((y22 = Go.Rx.v39_0 [List.getD y11 0 0, List.getD y11 1 0, List.getD y11 2 0, List.getD y11 3 0, List.getD y11 4 0, List.getD y11 5 0, List.getD y11 6 0, List.getD y11 7 0, List.getD y11 8 0, List.getD y11 9 0, List.getD y11 10 0, List.getD y11 11 0, List.getD y11 12 0, List.getD y11 13 0, List.getD y11 14 0, List.getD y11 15 0, List.getD y11 16 0, List.getD y11 17 0, List.getD y11 18 0, List.getD y11 19 0, List.getD y11 20 0, List.getD y11 21 0, List.getD y11 22 0, y12]) → (
                                                                                                              br (y21 == Go.IntKind.wrap Go.IntKind.i64 (y22 + Go.IntKind.wrap Go.IntKind.i64 (Int.tmod (Go.IntKind.wrap Go.IntKind.u64 (List.getD xs 12 0)) 32)))
                                                                                                                (
                                                                                                                ((
                                                                                                                  True) ∧ (
                                                                                                                  ∀ y23, (
                                                                                                                    ((y23 = Go.Rx.v15_0 [List.getD y11 0 0, List.getD y11 1 0, List.getD y11 2 0, List.getD y11 3 0, List.getD y11 4 0, List.getD y11 5 0, List.getD y11 6 0, List.getD y11 7 0, List.getD y11 8 0, List.getD y11 9 0, List.getD y11 10 0, List.getD y11 11 0, List.getD y11 12 0, List.getD y11 13 0, List.getD y11 14 0, List.getD y11 15 0, List.getD y11 16 0, List.getD y11 17 0, List.getD y11 18 0, List.getD y11 19 0, List.getD y11 20 0, List.getD y11 21 0, List.getD y11 22 0]) → (
                                                                                                                      br (Decidable.decide (Go.IntKind.wrap Go.IntKind.i64 (y12 + Go.IntKind.wrap Go.IntKind.i64 (Int.tmod (Go.IntKind.wrap Go.IntKind.u64 (List.getD xs 12 0)) 32)) < y23))
                                                                                                                        (
                                                                                                                        ((
                                                                                                                          True) ∧ (
                                                                                                                          K (vb (Bool.true)) [])))
                                                                                                                        (
                                                                                                                        K (vb (Bool.false)) [])))))))
                                                                                                                (
                                                                                                                K (vb (Bool.false)) []))))))))))))
                                                                                                  (
                                                                                                  K (vb (Bool.false)) []))
                                                                                                (
                                                                                                K (vb (Bool.false)) []))
                                                                                              (
                                                                                              K (vb (Bool.false)) [])))))))))))))))))))))))))))))))) ∧ (
                                                    ((Go.Rx.rightM [y0, y1, y2, y3, y4, y5, y6, y7, y8, y9, y10] = Bool.false) → (
                                                      Req (!Go.IntKind.wrap Go.IntKind.u64 y2 == 0)
                                                        (
                                                        ((
                                                          True) ∧ (
                                                          ∀ y24, (
                                                            ((y24 = Go.Rx.v34_0 [List.getD (Go.Rx.zer 23) 0 0, List.getD (Go.Rx.zer 23) 1 0, List.getD (Go.Rx.zer 23) 2 0, List.getD (Go.Rx.zer 23) 3 0, List.getD (Go.Rx.zer 23) 4 0, List.getD (Go.Rx.zer 23) 5 0, List.getD (Go.Rx.zer 23) 6 0, List.getD (Go.Rx.zer 23) 7 0, List.getD (Go.Rx.zer 23) 8 0, List.getD (Go.Rx.zer 23) 9 0, List.getD (Go.Rx.zer 23) 10 0, List.getD (Go.Rx.zer 23) 11 0, List.getD (Go.Rx.zer 23) 12 0, List.getD (Go.Rx.zer 23) 13 0, List.getD (Go.Rx.zer 23) 14 0, List.getD (Go.Rx.zer 23) 15 0, List.getD (Go.Rx.zer 23) 16 0, List.getD (Go.Rx.zer 23) 17 0, List.getD (Go.Rx.zer 23) 18 0, List.getD (Go.Rx.zer 23) 19 0, List.getD (Go.Rx.zer 23) 20 0, List.getD (Go.Rx.zer 23) 21 0, List.getD (Go.Rx.zer 23) 22 0, Go.IntKind.wrap Go.IntKind.i64 (Int.tmod (Go.IntKind.wrap Go.IntKind.u64 (List.getD xs 11 0)) (Go.IntKind.wrap Go.IntKind.u64 y2))]) → (
                                                              ((
                                                                True) ∧ (
                                                                ∀ y25, (
                                                                  ∀ y26, (
                                                                    ∀ y27, (
                                                                      ((y25 = Go.Rx.v37_0 [List.getD (Go.Rx.zer 23) 0 0, List.getD (Go.Rx.zer 23) 1 0, List.getD (Go.Rx.zer 23) 2 0, List.getD (Go.Rx.zer 23) 3 0, List.getD (Go.Rx.zer 23) 4 0, List.getD (Go.Rx.zer 23) 5 0, List.getD (Go.Rx.zer 23) 6 0, List.getD (Go.Rx.zer 23) 7 0, List.getD (Go.Rx.zer 23) 8 0, List.getD (Go.Rx.zer 23) 9 0, List.getD (Go.Rx.zer 23) 10 0, List.getD (Go.Rx.zer 23) 11 0, List.getD (Go.Rx.zer 23) 12 0, List.getD (Go.Rx.zer 23) 13 0, List.getD (Go.Rx.zer 23) 14 0, List.getD (Go.Rx.zer 23) 15 0, List.getD (Go.Rx.zer 23) 16 0, List.getD (Go.Rx.zer 23) 17 0, List.getD (Go.Rx.zer 23) 18 0, List.getD (Go.Rx.zer 23) 19 0, List.getD (Go.Rx.zer 23) 20 0, List.getD (Go.Rx.zer 23) 21 0, List.getD (Go.Rx.zer 23) 22 0, Go.IntKind.wrap Go.IntKind.i64 (y24 + Go.IntKind.wrap Go.IntKind.i64 (Int.tmod (Go.IntKind.wrap Go.IntKind.u64 (List.getD xs 12 0)) 32))]) → (
                                                                        ((y26 = Go.Rx.v37_1 [List.getD (Go.Rx.zer 23) 0 0, List.getD (Go.Rx.zer 23) 1 0, List.getD (Go.Rx.zer 23) 2 0, List.getD (Go.Rx.zer 23) 3 0, List.getD (Go.Rx.zer 23) 4 0, List.getD (Go.Rx.zer 23) 5 0, List.getD (Go.Rx.zer 23) 6 0, List.getD (Go.Rx.zer 23) 7 0, List.getD (Go.Rx.zer 23) 8 0, List.getD (Go.Rx.zer 23) 9 0, List.getD (Go.Rx.zer 23) 10 0, List.getD (Go.Rx.zer 23) 11 0, List.getD (Go.Rx.zer 23) 12 0, List.getD (Go.Rx.zer 23) 13 0, List.getD (Go.Rx.zer 23) 14 0, List.getD (Go.Rx.zer 23) 15 0, List.getD (Go.Rx.zer 23) 16 0, List.getD (Go.Rx.zer 23) 17 0, List.getD (Go.Rx.zer 23) 18 0, List.getD (Go.Rx.zer 23) 19 0, List.getD (Go.Rx.zer 23) 20 0, List.getD (Go.Rx.zer 23) 21 0, List.getD (Go.Rx.zer 23) 22 0, Go.IntKind.wrap Go.IntKind.i64 (y24 + Go.IntKind.wrap Go.IntKind.i64 (Int.tmod (Go.IntKind.wrap Go.IntKind.u64 (List.getD xs 12 0)) 32))]) → (
                                                                          ((y27 = Go.Rx.v37_2 [List.getD (Go.Rx.zer 23) 0 0, List.getD (Go.Rx.zer 23) 1 0, List.getD (Go.Rx.zer 23) 2 0, List.getD (Go.Rx.zer 23) 3 0, List.getD (Go.Rx.zer 23) 4 0, List.getD (Go.Rx.zer 23) 5 0, List.getD (Go.Rx.zer 23) 6 0, List.getD (Go.Rx.zer 23) 7 0, List.getD (Go.Rx.zer 23) 8 0, List.getD (Go.Rx.zer 23) 9 0, List.getD (Go.Rx.zer 23) 10 0, List.getD (Go.Rx.zer 23) 11 0, List.getD (Go.Rx.zer 23) 12 0, List.getD (Go.Rx.zer 23) 13 0, List.getD (Go.Rx.zer 23) 14 0, List.getD (Go.Rx.zer 23) 15 0, List.getD (Go.Rx.zer 23) 16 0, List.getD (Go.Rx.zer 23) 17 0, List.getD (Go.Rx.zer 23) 18 0, List.getD (Go.Rx.zer 23) 19 0, List.getD (Go.Rx.zer 23) 20 0, List.getD (Go.Rx.zer 23) 21 0, List.getD (Go.Rx.zer 23) 22 0, Go.IntKind.wrap Go.IntKind.i64 (y24 + Go.IntKind.wrap Go.IntKind.i64 (Int.tmod (Go.IntKind.wrap Go.IntKind.u64 (List.getD xs 12 0)) 32))]) → (
                                                                            K (vb (Bool.false)) []))))))))))))))))))))))))))))))))))))))))))))))))))))))))) := by
  kernel_rfl

end Go.Rx
end
