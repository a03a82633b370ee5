/- Contracts of functions of numbers, and of structs of numbers. -/
import Derived.Test.YtpgapdmmcanffaaRx9
import Derived.KernelRfl
namespace Go.Rx

theorem br_true {b : Bool} {A B : Prop} (hb : b = true) (h : A) : br b A B := by subst hb; exact h
theorem br_false {b : Bool} {A B : Prop} (hb : b = false) (h : B) : br b A B := by subst hb; exact h
theorem br_intro {b : Bool} {A B : Prop} (h1 : b = true → A) (h2 : b = false → B) : br b A B := by
  cases b with
  | true => exact h1 rfl
  | false => exact h2 rfl
theorem Req_intro {b : Bool} {A : Prop} (hb : b = true) (h : A) : Req b A := by subst hb; exact h
theorem inR_nat {i n : Nat} (h : i < n) : inR (i : Int) n = true := by simp [inR]; omega
theorem inR_int {i : Int} {n : Nat} (h0 : 0 ≤ i) (h : i < (n : Int)) : inR i n = true := by simp [inR]; omega
theorem wrap_id {x : Int} (h0 : -9223372036854775808 ≤ x) (h1 : x ≤ 9223372036854775807) : IntKind.i64.wrap x = x := by rw [IntKind.wrap_i64]; omega
theorem wrap_succ {i : Nat} (h : i ≤ 4611686018427387904) : IntKind.i64.wrap ((i : Int) + 1) = ((i + 1 : Nat) : Int) := by rw [wrap_id (by omega) (by omega)]; omega

theorem tag_ok {P : Program} {elT : Nat → TypeId} {t tg : Nat} (h1 : P.underlying t = some (.slice (elT tg))) (h2 : P.info? (elT tg) = some ((P.info? (elT tg)).getD default))
    (h3 : ((P.info? (elT tg)).getD default).zero = some (((P.info? (elT tg)).getD default).zero.getD undef)) (h4 : (((P.info? (elT tg)).getD default).zero.getD undef).cells = (elEnc tg (elD tg)).toArray)
    (h5 : ((P.info? (elT tg)).getD default).size = elM tg) (h6 : Nat.ble ((P.info? (elT tg)).getD default).bytes 65536 = true) :
    P.underlying t = some (.slice (elT tg)) ∧ ∃ i z, P.info? (elT tg) = some i ∧ i.zero = some z ∧ z.cells = (elEnc tg (elD tg)).toArray ∧ i.size = elM tg ∧ i.bytes ≤ 65536 :=
  ⟨h1, _, _, h2, h3, h4, h5, Nat.le_of_ble_eq_true h6⟩

theorem extsV_map : ∀ {cs : List V} {vs : List Value}, extsV cs = some vs → cs = vs.map .ext
  | [], vs, h => by simp only [extsV, Option.some.injEq] at h; subst h; rfl
  | v :: r, vs, h => by
    simp only [extsV] at h
    cases v with
    | ext x =>
      simp only [extV] at h
      cases hr : extsV r with
      | none => simp [hr] at h
      | some ys => simp only [hr, Option.some.injEq] at h; subst h; rw [extsV_map hr]; rfl
    | _ => simp [extV] at h

/-- Arguments by shape: 0: an int; n + 1: a struct of so many ints. The numbers, one behind the other. -/
def shA : List Nat → List V → Option (List Int)
  | [], [] => some []
  | 0 :: sh, v :: r => match v with
    | .ext (.int .i64 n) => match shA sh r with
      | some xs => some (n :: xs)
      | none => none
    | _ => none
  | (k + 1) :: sh, v :: r => match v with
    | .agg cs => match extsV cs with
      | some vs => match intsOf vs with
        | some ys => bif Nat.beq ys.length (k + 1) then (match shA sh r with
          | some xs => some (ys ++ xs)
          | none => none) else none
        | none => none
      | none => none
    | _ => none
  | _, _ => none

/-- A struct of ints, from there on. -/
def icV (n o : Nat) (xs : List Int) : List V := (List.range n).map fun i => vi (xs.getD (o + i) 0)

def mkA : List Nat → Nat → List Int → List V
  | [], _, _ => []
  | 0 :: sh, o, xs => vi (xs.getD o 0) :: mkA sh (o + 1) xs
  | (k + 1) :: sh, o, xs => .agg (icV (k + 1) o xs) :: mkA sh (o + (k + 1)) xs

theorem icV_pre {n : Nat} {ys zs : List Int} (pre : List Int) (h : ys.length = n) : icV n pre.length (pre ++ (ys ++ zs)) = ys.map vi := by
  apply List.ext_getElem?
  intro i
  unfold icV
  by_cases hi : i < n
  · rw [List.getElem?_map, List.getElem?_range hi, List.getElem?_map]
    have h1 : (pre ++ (ys ++ zs)).getD (pre.length + i) 0 = ys[i]'(by omega) := by
      simp only [List.getD]
      rw [List.getElem?_append_right (by omega), List.getElem?_append_left (by omega)]
      simp [List.getElem?_eq_getElem (show i < ys.length by omega)]
    rw [List.getElem?_eq_getElem (show i < ys.length by omega)]
    exact congrArg (fun x => some (vi x)) h1
  · rw [List.getElem?_eq_none (by simpa using hi), List.getElem?_eq_none (by simp; omega)]

theorem shA_mk : ∀ {sh : List Nat} {args : List V} {xs : List Int} (pre : List Int), shA sh args = some xs → args = mkA sh pre.length (pre ++ xs)
  | [], args, xs, pre, h => by
    cases args with
    | nil => rfl
    | cons v r => simp [shA] at h
  | 0 :: sh, args, xs, pre, h => by
    cases args with
    | nil => simp [shA] at h
    | cons v r =>
      simp only [shA] at h
      split at h
      · rename_i n
        split at h
        · rename_i ys hys
          injection h with h; subst h
          have ih := shA_mk (pre ++ [n]) hys
          simp only [List.length_append, List.length_cons, List.length_nil, List.append_assoc, List.cons_append, List.nil_append] at ih
          simp only [mkA]
          rw [← ih]
          simp [List.getD, vi]
        · cases h
      · cases h
  | (k + 1) :: sh, args, xs, pre, h => by
    cases args with
    | nil => simp [shA] at h
    | cons v r =>
      simp only [shA] at h
      split at h
      · rename_i cs
        split at h
        · rename_i vs hvs
          split at h
          · rename_i ys hys
            cases hb : Nat.beq ys.length (k + 1) with
            | false => rw [hb] at h; cases h
            | true =>
              rw [hb] at h
              simp only [cond_true] at h
              have hl := Nat.eq_of_beq_eq_true hb
              split at h
              · rename_i zs hzs
                injection h with h; subst h
                have ih := shA_mk (pre ++ ys) hzs
                simp only [List.length_append, List.append_assoc, hl] at ih
                simp only [mkA]
                rw [← ih, icV_pre pre hl, extsV_map hvs, ← intsOf_map hys, List.map_map]
                rfl
              · cases h
          · cases h
        · cases h
      · cases h

theorem spec_mono {P : Program} {elT : Nat → TypeId} {g : FuncId} {s1 s2 : Spec} (h : ∀ (args : List V) (H : Heap) (K : V → Heap → Prop), s2.tr args H K → s1.tr args H K) (ok : SpecOK P elT g s1) : SpecOK P elT g s2 :=
  ⟨ok.1, fun args H K ht => ok.2 args H K (h args H K ht)⟩

/-- A function of numbers: what must hold of them, and what it tells. -/
def fS (sh : List Nat) (pre : List Int → Prop) (f : List Int → V) : Spec where
  tr := fun args H K => match H, shA sh args with
    | [], some xs => pre xs ∧ K (f xs) []
    | _, _ => False

theorem fS_ok {cfg : Cfg} (ok : CfgOK cfg) (hsig : ∀ g s, cfg.sigs g = some s → SpecOK cfg.P cfg.elT g s) {g : FuncId} {fn : Func} {sh : List Nat} {pre : List Int → Prop} {f : List Int → V}
    (hg : cfg.P.funcs[g]? = some fn) (hname : (fn.name == "runtime.NumGoroutine") = false) (hb : fn.body.isNone = false)
    (h : ∀ (xs : List Int) (K : V → Heap → Prop), pre xs → K (f xs) [] → exF cfg fn (mkA sh 0 xs) [] K) : SpecOK cfg.P cfg.elT g (fS sh pre f) := by
  refine spec_of_exF ok hsig hg hname hb ?_
  intro args H K ht
  unfold fS at ht
  simp only at ht
  split at ht
  · rename_i xs hxs
    have e := shA_mk [] hxs
    simp only [List.length_nil, List.nil_append] at e
    rw [e]
    exact h _ K ht.1 ht.2
  · exact ht.elim

end Go.Rx
