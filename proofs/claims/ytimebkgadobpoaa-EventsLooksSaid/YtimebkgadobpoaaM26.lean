/- What the functions of layers 25 and 26 tell, plainly; and their contracts' forms. -/
import Derived.Test.YtimebkgadobpoaaRx9
import Derived.KernelRfl
namespace Go.Rx

def evOf : V → Option Ev
  | .agg cs => match extsV cs with
    | some vs => decEv vs
    | none => none
  | _ => none

theorem extsV_map : ∀ {cs : List V} {vs : List Value}, extsV cs = some vs → cs = vs.map .ext
  | [], vs, h => by simp only [extsV, Option.some.injEq] at h; subst h; rfl
  | v :: r, vs, h => by
    simp only [extsV] at h
    cases v with
    | ext x =>
      simp only [extV] at h
      cases hr : extsV r with
      | none => simp [hr] at h
      | some ys => simp only [hr, Option.some.injEq] at h; subst h; rw [extsV_map hr]; rfl
    | _ => simp [extV] at h

theorem evOf_spec {v : V} {e : Ev} (h : evOf v = some e) : v = evV e := by
  unfold evOf at h
  split at h
  · rename_i cs
    split at h
    · rename_i vs hvs
      rw [extsV_map hvs, ← elDec_enc 3 vs e h]
      rfl
    · cases h
  · cases h

def lessM (a b : Ev) : Bool :=
  match a.Stamp != b.Stamp with
  | true => decide (a.Stamp < b.Stamp)
  | false => match !(a.Wrote == b.Wrote) with
    | true => a.Wrote
    | false => match a.Done with
      | true => match b.Done with
        | true => decide (a.End < b.End)
        | false => true
      | false => false

def aheadM (a b : Ev) : Bool := a.Done && decide (a.End < b.Begin)

def ev2S (f : Ev → Ev → Bool) : Spec where
  tr := fun args H K => match args, H with
    | [a, b], [] => match evOf a, evOf b with
      | some a, some b => K (vb (f a b)) []
      | _, _ => False
    | _, _ => False

theorem ev2S_elim {f : Ev → Ev → Bool} {args : List V} {H : Heap} {K : V → Heap → Prop} (h : (ev2S f).tr args H K) : ∃ a b, args = [evV a, evV b] ∧ H = [] ∧ K (vb (f a b)) [] := by
  unfold ev2S at h
  simp only at h
  split at h
  · split at h
    · rename_i a b ha hb
      exact ⟨a, b, by rw [evOf_spec ha, evOf_spec hb], rfl, h⟩
    · exact h.elim
  · exact h.elim

theorem br_true {b : Bool} {A B : Prop} (hb : b = true) (h : A) : br b A B := by subst hb; exact h
theorem br_false {b : Bool} {A B : Prop} (hb : b = false) (h : B) : br b A B := by subst hb; exact h
theorem br_intro {b : Bool} {A B : Prop} (h1 : b = true → A) (h2 : b = false → B) : br b A B := by
  cases b with
  | true => exact h1 rfl
  | false => exact h2 rfl
theorem Req_intro {b : Bool} {A : Prop} (hb : b = true) (h : A) : Req b A := by subst hb; exact h

theorem inR_nat {i n : Nat} (h : i < n) : inR (i : Int) n = true := by simp [inR]; omega
theorem inR_int {i : Int} {n : Nat} (h0 : 0 ≤ i) (h : i < (n : Int)) : inR i n = true := by simp [inR]; omega
theorem wrap_id {x : Int} (h0 : -9223372036854775808 ≤ x) (h1 : x ≤ 9223372036854775807) : IntKind.i64.wrap x = x := by rw [IntKind.wrap_i64]; omega
theorem wrap_succ {i : Nat} (h : i ≤ 4611686018427387904) : IntKind.i64.wrap ((i : Int) + 1) = ((i + 1 : Nat) : Int) := by rw [wrap_id (by omega) (by omega)]; omega

def eqI (l m : List Int) : Bool := decide (l = m)

/-- Two lists of numbers: whether they are the same. -/
def sameS : Spec where
  tr := fun args H K => match args, H with
    | [.row 0, .row 1], [.row 0 l true, .row 0 m true] => l.length ≤ 1048576 ∧ K (vb (eqI l m)) [.row 0 l true, .row 0 m true]
    | _, _ => False

theorem sameS_elim {args : List V} {H : Heap} {K : V → Heap → Prop} (h : sameS.tr args H K) :
    ∃ (l m : List Int), args = [.row 0, .row 1] ∧ H = [.row 0 l true, .row 0 m true] ∧ l.length ≤ 1048576 ∧ K (vb (eqI l m)) [.row 0 l true, .row 0 m true] := by
  unfold sameS at h
  simp only at h
  split at h
  · exact ⟨_, _, rfl, rfl, h⟩
  · exact h.elim

theorem tag_ok {P : Program} {elT : Nat → TypeId} {t tg : Nat} (h1 : P.underlying t = some (.slice (elT tg))) (h2 : P.info? (elT tg) = some ((P.info? (elT tg)).getD default))
    (h3 : ((P.info? (elT tg)).getD default).zero = some (((P.info? (elT tg)).getD default).zero.getD undef)) (h4 : (((P.info? (elT tg)).getD default).zero.getD undef).cells = (elEnc tg (elD tg)).toArray)
    (h5 : ((P.info? (elT tg)).getD default).size = elM tg) (h6 : Nat.ble ((P.info? (elT tg)).getD default).bytes 65536 = true) :
    P.underlying t = some (.slice (elT tg)) ∧ ∃ i z, P.info? (elT tg) = some i ∧ i.zero = some z ∧ z.cells = (elEnc tg (elD tg)).toArray ∧ i.size = elM tg ∧ i.bytes ≤ 65536 :=
  ⟨h1, _, _, h2, h3, h4, h5, Nat.le_of_ble_eq_true h6⟩

end Go.Rx
