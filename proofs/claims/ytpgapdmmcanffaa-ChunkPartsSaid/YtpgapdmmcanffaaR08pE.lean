/- What the row's text of this claim stands on, part 5: the symbolic executor, and contracts of the program's functions. No condition. -/
import Derived.WalkKit
import Derived.ProofKit
import Derived.OpenShut
import Derived.Carry
import Derived.Deep.Slices
import Derived.JoinedOf
import Derived.Test.YtpgapdmmcanffaaR08pD
section
/- From a function's contract to the row of its law: how arguments read, and that they read so behind the call. -/
namespace Go.Rx
open Go.ChangeShapes Go.WideShapes Go.ChangeAt Go.RowKit

/-- The kinds of a law's arguments: a slice that is read, a value. -/
inductive AK where
  | row (tg : Nat)
  | el (tg : Nat)

/-- An element's numbers fit their kinds. -/
def elWf (tg : Nat) (e : El tg) : Prop := ∀ k n, Value.int k n ∈ elEnc tg e → (Lit.int k n).wf = true

/-- A value of an element's kind. -/
def elV : (tg : Nat) → El tg → V
  | 0, (n : Int) => vi n
  | 1, (b : Bool) => vb b
  | t, e => .agg ((elEnc t e).map .ext)

def ArgsOf : List AK → Nat → List V → Heap → Prop
  | [], _, ags, H => ags = [] ∧ H = []
  | .row tg :: ks, n, ags, H => ∃ (l : List (El tg)) (ags' : List V) (H' : Heap), ags = .row n :: ags' ∧ H = .row tg l true :: H' ∧ (∀ e ∈ l, elWf tg e) ∧ l.length ≤ maxLen ∧ ArgsOf ks (n + 1) ags' H'
  | .el tg :: ks, n, ags, H => ∃ (e : El tg) (ags' : List V), ags = elV tg e :: ags' ∧ elWf tg e ∧ ArgsOf ks n ags' H

/-- A law: whatever comes in, true. -/
def lawS (ks : List AK) : Spec where
  tr := fun args H K => ArgsOf ks 0 args H ∧ ∀ H', K (vb true) H'

section
variable {P : Program} {elT : ET}

/-- What a program must tell of an element's type. -/
structure ElOK (P : Program) (elT : ET) (tg : Nat) : Prop where
  cells : P.cellsOf (elT tg) = elM tg
  reads : ∀ {H : Type} (enc : TypeId × Value → H) (W : World) (base : Nat) (sp : Nat → Bool) (held : Bool) (fuel : Nat) (cs : List Value) (x : DataW H × List MemPlace),
    DataW.trod enc P W base sp held fuel (elT tg) cs = some x → ∃ e : El tg, cs = elEnc tg e ∧ elWf tg e
  value : ∀ (W : World) (r : Reach) (b : Nat) (v : Value) (e : El tg), Value.okWide P W r b (elT tg) v → v.cells.toList = elEnc tg e → ∀ ρ, (elV tg e).den ρ = some v

variable {H : Type} {enc : TypeId × Value → H} {W : World} {sp : Nat → Bool} {held : Bool}

theorem open_row {tg : Nat} (ok : ElOK P elT tg) {t : TypeId} (ht : P.underlying t = some (.slice (elT tg))) {r : Reach} {b0 : Nat} {v : Value} {d : DataW H} {ps : List MemPlace}
    (hval : Value.okWide P W r b0 t v) (hd : DataW.Trod enc P W 0 sp held t v d ps) :
    ∃ (l : List (El tg)) (F : List Nat), (∀ n ∈ F, n < W.heap.size) ∧ (∀ e ∈ l, elWf tg e) ∧ l.length ≤ maxLen ∧ (∃ a cap, v = .slice a l.length cap) ∧ ∀ ρ, (Blk.row tg l true).holds elT ρ W v F := by
  obtain ⟨a, len, cap, rfl⟩ := okWide_slice ht hval
  obtain ⟨fuel, hf⟩ := hd
  rcases Deep.open_slice ht hf with ⟨h, _⟩ | ⟨ad, len', cap', m, n, D, Pl, h, _, hl, hm, hmm, _, hx⟩
  · simp [Value.cells] at h
    obtain ⟨rfl, rfl, rfl⟩ := h
    exact ⟨[], [], by simp, by simp, Nat.zero_le _, ⟨none, 0, rfl⟩, fun ρ => ⟨none, 0, rfl, Nat.le_refl _, Nat.zero_le _, fun _ => rfl, fun j x hj => by simp [flat] at hj⟩⟩
  · simp [Value.cells] at h
    obtain ⟨rfl, rfl, rfl⟩ := h
    have hlm : len ≤ m := by rw [hmm]; split <;> omega
    have key : ∀ i, i < len → ∃ e : El tg, W.cells? 0 (ad.add (i * elM tg)) (elM tg) = some (elEnc tg e) ∧ elWf tg e := by
      intro i hi
      obtain ⟨cs', h1, h2⟩ := hx i (by omega)
      rw [ok.cells] at h1
      obtain ⟨e, he, hw⟩ := ok.reads enc W 0 sp held n cs' _ h2
      exact ⟨e, by rw [h1, he], hw⟩
    haveI : Inhabited (El tg) := ⟨elD tg⟩
    obtain ⟨E, hE⟩ := Deep.choose_lt key
    refine ⟨(List.range len).map E, if ad.block < W.heap.size then [ad.block] else [], ?_, ?_, by simp; omega, ⟨some ad, cap, by simp⟩, fun ρ => ⟨some ad, cap, by simp, by simpa using hl, hm, (fun h => by cases h), fun j x hj => ?_⟩⟩
    · intro n hn
      split at hn
      · rename_i hb; simp at hn; omega
      · simp at hn
    · intro e he
      obtain ⟨i, hi, rfl⟩ := List.mem_map.1 he
      exact (hE i (by simpa using hi)).2
    · have hjl : j < len * elM tg := by
        have := (List.getElem?_eq_some_iff.1 hj).1
        rw [flat_len] at this; simpa using this
      have hM : 0 < elM tg := by
        rcases Nat.eq_zero_or_pos (elM tg) with h | h
        · rw [h] at hjl; simp at hjl
        · exact h
      have hk : j / elM tg < len := (Nat.div_lt_iff_lt_mul hM).2 hjl
      have hr : j % elM tg < elM tg := Nat.mod_lt _ hM
      have hje : j = j / elM tg * elM tg + j % elM tg := by rw [Nat.mul_comm]; exact (Nat.div_add_mod _ _).symm
      rw [hje, flat_get tg _ _ (by simpa using hk) _ hr] at hj
      have hg : ((List.range len).map E).getD (j / elM tg) (elD tg) = E (j / elM tg) := by simp [List.getD, hk]
      rw [hg] at hj
      obtain ⟨_, _, hc⟩ := World.cells?_some (hE _ hk).1
      have := hc _ hr
      rw [hj, Deep.add_add, ← hje] at this
      refine ⟨ad, rfl, ?_, this⟩
      have hb : (ad.add j).block = ad.block := block_add ad j
      have hlt : ad.block < W.heap.size := by
        rcases Nat.lt_or_ge ad.block W.heap.size with h | h
        · exact h
        · rw [← hb] at h
          simp [World.cell?, Array.getElem?_eq_none h] at this
      simp [hlt]

/-- What each argument's type must be. -/
def AKOK (P : Program) (elT : ET) : AK → TypeId → Prop
  | .row tg, t => P.underlying t = some (.slice (elT tg)) ∧ ElOK P elT tg
  | .el tg, t => t = elT tg ∧ ElOK P elT tg

def AKsOK (P : Program) (elT : ET) : List AK → List TypeId → Prop
  | [], [] => True
  | k :: ks, t :: ts => AKOK P elT k t ∧ AKsOK P elT ks ts
  | _, _ => False

theorem open_args : ∀ (ks : List AK) (ts : List TypeId) (vs : List Value) (ds : List (DataW H)) (ps : List MemPlace) (r : Reach) (b0 : Nat), AKsOK P elT ks ts →
    (∀ (j : Nat) t v, ts[j]? = some t → vs[j]? = some v → Value.okWide P W r b0 t v) → DataW.TrodAll enc P W 0 sp held ts vs ds ps → ∀ (ρ : List Value) (F : Nat → List Nat) (H0 : Heap), Sat elT ρ F H0 W → (∀ b ∈ H0, b.writable = false) →
    ∃ (ags : List V) (H1 : Heap) (ρ' : List Value) (F' : Nat → List Nat), ArgsOf ks ρ.length ags H1 ∧ denL ρ' ags = some vs ∧ Sat elT ρ' F' (H0 ++ H1) W ∧ (∀ b ∈ H0 ++ H1, b.writable = false) ∧ Le ρ ρ'
  | [], ts, vs, ds, ps, r, b0, hk, _, hd, ρ, F, H0, hs, hw => by
    cases ts with
    | cons t ts => exact hk.elim
    | nil =>
      obtain ⟨rfl, rfl, rfl⟩ := trodAll_nil hd
      exact ⟨[], [], ρ, F, ⟨rfl, rfl⟩, rfl, by simpa using hs, by simpa using hw, Le.refl ρ⟩
  | k :: ks, ts, vs, ds, ps, r, b0, hk, hval, hd, ρ, F, H0, hs, hw => by
    cases ts with
    | nil => exact hk.elim
    | cons t ts =>
      obtain ⟨hk1, hk2⟩ := hk
      obtain ⟨v, vs', d, ds', p, q, rfl, rfl, rfl, h1, h2⟩ := trodAll_cons hd
      have hv := hval 0 t v rfl rfl
      have hval' : ∀ (j : Nat) t v, ts[j]? = some t → vs'[j]? = some v → Value.okWide P W r b0 t v := fun j t v a b => hval (j + 1) t v (by simpa using a) (by simpa using b)
      cases k with
      | row tg =>
        obtain ⟨ht, ok⟩ := hk1
        obtain ⟨l, G, hG, hwf, hml, ⟨a, cap, hv2⟩, hh⟩ := open_row ok ht hv h1
        have hlen := hs.len
        have hs1 : Sat elT (ρ ++ [v]) (fset F H0.length G) (H0 ++ [.row tg l true]) W := by
          refine ⟨by simp [hlen], ?_, ?_, ?_⟩
          · intro i b x hb hx
            rcases push_get hb with ⟨hi, hb⟩ | ⟨rfl, rfl⟩
            · have hx' : ρ[i]? = some x := by rw [List.getElem?_append_left (by omega)] at hx; exact hx
              have e : fset F H0.length G i = F i := by unfold fset; rw [if_neg (by omega)]
              rw [e]
              exact Blk.holds_le (by intro i x h; exact List.getElem?_append_left (List.getElem?_eq_some_iff.1 h).1 ▸ h) (fun _ _ => rfl) b (hs.each i b x hb hx')
            · have hx' : x = v := by
                rw [List.getElem?_append_right (by omega)] at hx
                rw [show H0.length - ρ.length = 0 by omega] at hx
                simpa using hx.symm
              subst hx'
              have e : fset F H0.length G H0.length = G := by simp [fset]
              rw [e]
              exact hh _
          · intro i b hb n hn
            rcases push_get hb with ⟨hi, hb⟩ | ⟨rfl, rfl⟩
            · have e : fset F H0.length G i = F i := by unfold fset; rw [if_neg (by omega)]
              rw [e] at hn
              exact hs.lt i b hb n hn
            · have e : fset F H0.length G H0.length = G := by simp [fset]
              rw [e] at hn
              exact hG n hn
          · intro i j bi bj hbi hbj hij hwi
            exfalso
            have hm := List.mem_of_getElem? hbi
            rcases List.mem_append.1 hm with hm | hm
            · rw [hw bi hm] at hwi; cases hwi
            · simp at hm; subst hm; cases hwi
        have hw1 : ∀ b ∈ H0 ++ [Blk.row tg l true], b.writable = false := by
          intro b hb
          rcases List.mem_append.1 hb with hb | hb
          · exact hw b hb
          · simp at hb; subst hb; rfl
        obtain ⟨ags, H1, ρ', F', g1, g2, g3, g4, g5⟩ := open_args ks ts vs' ds' q r b0 hk2 hval' h2 _ _ _ hs1 hw1
        have hρ : ρ'[ρ.length]? = some v := g5 _ _ (by simp)
        refine ⟨.row ρ.length :: ags, .row tg l true :: H1, ρ', F', ⟨l, ags, H1, rfl, rfl, hwf, hml, by simpa using g1⟩, ?_, by simpa using g3, by simpa using g4, ?_⟩
        · have e : (V.row ρ.length).den ρ' = some v := by subst hv2; simp only [V.den, hρ]
          simp only [denL, e, g2]
        · intro i x hx
          exact g5 i x (by rw [List.getElem?_append_left (List.getElem?_eq_some_iff.1 hx).1]; exact hx)
      | el tg =>
        obtain ⟨rfl, ok⟩ := hk1
        obtain ⟨fuel, hf⟩ := h1
        obtain ⟨e, he, hwf⟩ := ok.reads enc W 0 sp held fuel _ _ hf
        obtain ⟨ags, H1, ρ', F', g1, g2, g3, g4, g5⟩ := open_args ks ts vs' ds' q r b0 hk2 hval' h2 ρ F H0 hs hw
        refine ⟨elV tg e :: ags, H1, ρ', F', ⟨e, ags, rfl, hwf, g1⟩, ?_, g3, g4, g5⟩
        simp only [denL, ok.value W r b0 v e hv he ρ', g2]

theorem trodAll_stays (hl : laidOutB P = true) {W' : World} {sp' : Nat → Bool} : ∀ {ts : List TypeId} {vs : List Value} {ds : List (DataW H)} {ps : List MemPlace}, ts.all (fun t => P.readableRec t && decide (t < P.types.size)) = true →
    DataW.TrodAll enc P W 0 (fun _ => true) true ts vs ds ps → (∀ x ∈ ps, W.sameAt W' x) → (∀ x ∈ ps, sp' x.block = true) → DataW.TrodAll enc P W' 0 sp' true ts vs ds ps
  | [], vs, ds, ps, _, h, _, _ => by
    obtain ⟨rfl, rfl, rfl⟩ := trodAll_nil h
    rfl
  | t :: ts, vs, ds, ps, hr, h, h1, h2 => by
    obtain ⟨v, vs', d, ds', p, q, rfl, rfl, rfl, g1, g2⟩ := trodAll_cons h
    simp only [List.all_cons, Bool.and_eq_true, decide_eq_true_eq] at hr
    exact ⟨p, q, WideElems.Trod_stays hl hr.1.1 hr.1.2 g1 (fun x hx => h1 x (by simp [hx])) (fun x hx => h2 x (by simp [hx])),
      trodAll_stays hl hr.2 g2 (fun x hx => h1 x (by simp [hx])) (fun x hx => h2 x (by simp [hx])), rfl⟩

/-- A call that reads alone, and its post. -/
theorem post_law {f : Func} {s : ChangeSpec} {apart fresh handsOn : Bool} {tb : TypeId} (hl : laidOutB P = true) (htb : P.underlying tb = some .bool) (hres : f.resultTypes = #[tb]) (hall : f.params.toList.all (fun t => P.readableRec t && decide (t < P.types.size)) = true)
    (hsv : s.vars = []) (hsp : ∀ ds : List (DataW H), ds.length = f.params.toList.length → s.fn H ds = { results := [.lit (.bool true)], args := ds })
    {W W' : World} {args : Array Value} {ds gs : List (DataW H)} {before : List MemPlace} (hW : DataW.Whole enc P f.params.toList s.vars apart W args.toList ds gs before) (hb : Below W.heap.size W W') :
    s.post enc P f apart fresh handsOn false W args (.bool true) W' := by
  have hlt : ∀ p ∈ before, p.block < W.heap.size := fun p hp => hW.lt p hp
  have hW' := hW
  obtain ⟨p, q, hA, hV, rfl, hfz, hnd⟩ := hW
  rw [hsv] at hV
  obtain ⟨rfl, rfl⟩ := trodVars_none hV
  have hlen : ∀ (ts : List TypeId) (vs : List Value) (ds : List (DataW H)) (ps : List MemPlace), DataW.TrodAll enc P W 0 (fun _ => true) true ts vs ds ps → ds.length = ts.length := by
    intro ts
    induction ts with
    | nil => intro vs ds ps h; obtain ⟨rfl, rfl, rfl⟩ := trodAll_nil h; rfl
    | cons t ts ih =>
      intro vs ds ps h
      obtain ⟨v, vs', d, ds', p, q, rfl, rfl, rfl, g1, g2⟩ := trodAll_cons h
      simp [ih _ _ _ g2]
  have hfn : s.fn H (ds ++ []) = { results := [.lit (.bool true)], args := ds } := by rw [List.append_nil]; exact hsp ds (hlen _ _ _ _ hA)
  refine ⟨ds, [], p ++ [], [], p, [], hW', ?_, ?_, ?_, hb.frame _, fun h => by cases h⟩
  · rw [hfn, hres]
    exact trodAll_mk1 (shut_bool htb true)
  · rw [hfn]
    exact trodAll_stays hl hall hA (fun x hx => hb.same (hlt x (by simpa using hx))) (fun x hx => by simpa using hlt x (by simpa using hx))
  · rw [hfn, hsv]
    rfl

/-- The law's contract is the row's. -/
theorem law_calls {f : Func} {s : ChangeSpec} {apart fresh handsOn : Bool} {tb : TypeId} {g : FuncId} {ks : List AK} (hspec : SpecOK P elT g (lawS ks)) (hk : AKsOK P elT ks f.params.toList)
    (hl : laidOutB P = true) (htb : P.underlying tb = some .bool) (hres : f.resultTypes = #[tb]) (hall : f.params.toList.all (fun t => P.readableRec t && decide (t < P.types.size)) = true)
    (hsv : s.vars = []) (hsp : ∀ ds : List (DataW H), ds.length = f.params.toList.length → s.fn H ds = { results := [.lit (.bool true)], args := ds })
    {W : World} {r : Reach} {base : Nat} {args : Array Value} {ds gs : List (DataW H)} {before : List MemPlace} (hval : ∀ (j : Nat) t v, f.params[j]? = some t → args[j]? = some v → Value.okWide P W r base t v)
    (hW : DataW.Whole enc P f.params.toList s.vars apart W args.toList ds gs before) :
    Calls P g args W fun e W' => ∃ v, e = .returned v ∧ s.post enc P f apart fresh handsOn false W args v W' := by
  have hW' := hW
  obtain ⟨p, q, hA, _⟩ := hW
  have h0 : Sat elT [] (fun _ => []) [] W := ⟨rfl, fun i b x hb => by simp at hb, fun i b hb => by simp at hb, fun i j bi bj hb => by simp at hb⟩
  obtain ⟨ags, H1, ρ, F, g1, g2, g3, g4, _⟩ := open_args ks f.params.toList args.toList ds p r base hk (fun j t v a b => hval j t v (by simpa using a) (by simpa using b)) hA [] (fun _ => []) [] h0 (by simp)
  have hc := hspec.2 ags H1 (fun v _ => v = vb true) ⟨g1, fun _ => rfl⟩ ρ F W args.toList g2 (by simpa using g3)
  rw [Array.toArray_toList] at hc
  refine hc.mono fun e W' h => ?_
  obtain ⟨v, x, ρ', F', H', rfl, rfl, hr, _, _, hfr⟩ := h
  have hx : x = .bool true := den_ext hr
  subst hx
  have hnw : ∀ (i : Nat) (b : Blk), H1[i]? = some b → b.writable = true → False := fun i b hb hw => by
    have := g4 b (by simpa using List.mem_of_getElem? hb)
    rw [this] at hw; cases hw
  have hb : Below W.heap.size W W' := ⟨hfr.os, hfr.tape, hfr.output, hfr.size, fun n hn => hfr.block n hn (fun i b hb hw => (hnw i b hb hw).elim)⟩
  exact ⟨_, rfl, post_law hl htb hres hall hsv hsp hW' hb⟩

/-! The cells of a type without pointers: numbers and truth values. -/
end

def flatFs (P : Program) (rec : TypeId → Option (List Bool)) : List Field → Nat → Option (List Bool)
  | [], _ => some []
  | f :: fs, o => match rec f.type with
    | none => none
    | some a => bif Nat.beq f.offset o && Nat.beq (P.cellsOf f.type) a.length then match flatFs P rec fs (o + a.length) with
      | some b => some (a ++ b)
      | none => none
      else none

/-- 'true': an int's cell; 'false': a bool's. -/
def flatK (P : Program) : Nat → TypeId → Option (List Bool)
  | 0, _ => none
  | n + 1, t => match P.underlying t with
    | some .bool => some [false]
    | some (.int .i64) => some [true]
    | some (.struct fs) => match flatFs P (flatK P n) fs.toList 0 with
      | some ks => bif Nat.beq (P.cellsOf t) ks.length then some ks else none
      | none => none
    | _ => none

def goodCell (b : Bool) (v : Option Value) : Prop := match b with
  | true => ∃ n, v = some (.int .i64 n) ∧ (Lit.int .i64 n).wf = true
  | false => ∃ c, v = some (.bool c)

section
variable {P : Program} {elT : ET} {H : Type} {enc : TypeId × Value → H} {W : World} {sp : Nat → Bool} {held : Bool}

theorem flatFs_good {rec : TypeId → Option (List Bool)} {base : Nat} {cs : List Value} (hrec : ∀ t ks fuel cs (x : DataW H × List MemPlace), rec t = some ks → DataW.trod enc P W base sp held fuel t cs = some x → cs.length = ks.length ∧ ∀ (i : Nat) (b : Bool), ks[i]? = some b → goodCell b cs[i]?) {n : Nat} :
    ∀ (fl : List Field) (o : Nat) (ks : List Bool), (∀ f ∈ fl, ∃ y, DataW.trod enc P W base sp held n f.type ((cs.drop f.offset).take (P.cellsOf f.type)) = some y) → flatFs P rec fl o = some ks → ∀ (i : Nat) (b : Bool), ks[i]? = some b → goodCell b cs[o + i]?
  | [], o, ks, _, h, i, b, hb => by simp only [flatFs, Option.some.injEq] at h; subst h; simp at hb
  | f :: fl, o, ks, hall, h, i, b, hb => by
    simp only [flatFs] at h
    split at h
    · cases h
    · rename_i a ha
      cases hc : (Nat.beq f.offset o && Nat.beq (P.cellsOf f.type) a.length) with
      | false => rw [hc] at h; cases h
      | true =>
        rw [hc] at h
        simp only [cond_true] at h
        simp only [Bool.and_eq_true] at hc
        have e1 := Nat.eq_of_beq_eq_true hc.1
        have e2 := Nat.eq_of_beq_eq_true hc.2
        split at h
        · rename_i b' hb'
          injection h with h
          subst h
          rcases Nat.lt_or_ge i a.length with hi | hi
          · rw [List.getElem?_append_left hi] at hb
            obtain ⟨y, hy⟩ := hall f (by simp)
            have hg := (hrec f.type a n _ y ha hy).2 i b hb
            rw [e1, e2, List.getElem?_take, if_pos hi, List.getElem?_drop] at hg
            exact hg
          · rw [List.getElem?_append_right hi] at hb
            have := flatFs_good hrec fl (o + a.length) b' (fun f hf => hall f (by simp [hf])) hb' (i - a.length) b hb
            rw [show o + a.length + (i - a.length) = o + i by omega] at this
            exact this
        · cases h

theorem flatK_good {base : Nat} : ∀ (n : Nat) (t : TypeId) (ks : List Bool) (fuel : Nat) (cs : List Value) (x : DataW H × List MemPlace), flatK P n t = some ks → DataW.trod enc P W base sp held fuel t cs = some x →
    cs.length = ks.length ∧ ∀ (i : Nat) (b : Bool), ks[i]? = some b → goodCell b cs[i]?
  | 0, t, ks, fuel, cs, x, h, _ => by cases h
  | n + 1, t, ks, fuel, cs, x, h, hx => by
    simp only [flatK] at h
    split at h
    · rename_i ht
      injection h with h; subst h
      obtain ⟨b, rfl, _⟩ := DataW.trod_bool ht hx
      refine ⟨rfl, fun i b' hb => ?_⟩
      cases i with
      | zero => simp at hb; subst hb; exact ⟨b, rfl⟩
      | succ i => simp at hb
    · rename_i ht
      injection h with h; subst h
      obtain ⟨m, rfl, _, hw⟩ := DataW.trod_int ht hx
      refine ⟨rfl, fun i b' hb => ?_⟩
      cases i with
      | zero => simp at hb; subst hb; exact ⟨m, rfl, hw⟩
      | succ i => simp at hb
    · rename_i fs ht
      split at h
      · rename_i ks' hks
        cases hc : Nat.beq (P.cellsOf t) ks'.length with
        | false => rw [hc] at h; cases h
        | true =>
          rw [hc] at h
          injection h with h; subst h
          obtain ⟨xs, m, _, _, hlen, hxs, hall⟩ := DataW.trod_struct ht hx
          refine ⟨by rw [hlen, Nat.eq_of_beq_eq_true hc], fun i b hb => ?_⟩
          have := flatFs_good (enc := enc) (W := W) (sp := sp) (held := held) (base := base) (cs := cs) (n := m) (fun t ks fuel cs x a b => flatK_good n t ks fuel cs x a b) fs.toList 0 ks' (fun f hf => by
            obtain ⟨k, hk⟩ := List.getElem?_of_mem hf
            rw [Array.getElem?_toList] at hk
            have h1 := hall k f hk
            have hi : k < fs.size := (Array.getElem?_eq_some_iff.1 hk).1
            rw [List.getElem?_eq_getElem (by omega)] at h1
            exact ⟨_, h1⟩) hks i b hb
          rwa [Nat.zero_add] at this
      · cases h
    · cases h

theorem elOK_int (ht : P.underlying (elT 0) = some (.int .i64)) (hc : P.cellsOf (elT 0) = 1) : ElOK P elT 0 := by
  refine ⟨hc, fun enc W base sp held fuel cs x h => ?_, fun W r b v e hv hcs ρ => ?_⟩
  · obtain ⟨n, rfl, _, hw⟩ := DataW.trod_int ht h
    refine ⟨n, rfl, fun k m hm => ?_⟩
    simp [elEnc, i64] at hm
    obtain ⟨rfl, rfl⟩ := hm
    exact hw
  · simp only [Value.okWide, ht, Cell.okWide] at hv
    have hcs' : v.cells.toList = [.int .i64 e] := hcs
    show some (Value.int .i64 e) = some v
    cases v <;> simp_all [Cell.ok, Value.cells]

theorem elOK_bool (ht : P.underlying (elT 1) = some .bool) (hc : P.cellsOf (elT 1) = 1) : ElOK P elT 1 := by
  refine ⟨hc, fun enc W base sp held fuel cs x h => ?_, fun W r b v e hv hcs ρ => ?_⟩
  · obtain ⟨b, rfl, _⟩ := DataW.trod_bool ht h
    refine ⟨b, rfl, fun k m hm => ?_⟩
    simp [elEnc] at hm
  · obtain ⟨b', rfl⟩ := okWide_bool ht hv
    have hcs' : (Value.bool b').cells.toList = [.bool e] := hcs
    show some (Value.bool e) = some (Value.bool b')
    simp [Value.cells] at hcs'
    rw [hcs']

theorem struct_value {tg : Nat} {e : El tg} {fs : Array Field} {W : World} {r : Reach} {b : Nat} {v : Value} (ht : P.underlying (elT tg) = some (.struct fs)) (hv : Value.okWide P W r b (elT tg) v) (hcs : v.cells.toList = elEnc tg e) (ρ : List Value) :
    (V.agg ((elEnc tg e).map .ext)).den ρ = some v := by
  obtain ⟨cs, rfl, _⟩ := okWide_struct ht hv
  simp only [Value.cells] at hcs
  simp only [V.den, denL_ext]
  rw [← hcs]

end
end Go.Rx
end

section
/- Structs of ints, as a row reads them. -/
namespace Go.Rx
open Go.ChangeShapes Go.WideShapes

theorem elOK_ints {P : Program} {elT : ET} {fs : Array Field} {m : Nat} (ht : P.underlying (elT (m + 4)) = some (.struct fs)) (hc : P.cellsOf (elT (m + 4)) = m + 1)
    (hf : flatK P 6 (elT (m + 4)) = some (List.replicate (m + 1) true)) : ElOK P elT (m + 4) := by
  refine ⟨hc, fun enc W base sp held fuel cs x h => ?_, fun W r b v e hv hcs ρ => struct_value ht hv hcs ρ⟩
  obtain ⟨hlen, hg⟩ := flatK_good 6 (elT (m + 4)) _ fuel cs x hf h
  rw [List.length_replicate] at hlen
  have hI : ∀ i, i < m + 1 → ∃ n, cs[i]? = some (.int .i64 n) ∧ (Lit.int .i64 n).wf = true := fun i hi => hg i true (by rw [List.getElem?_replicate, if_pos hi])
  obtain ⟨N, hN⟩ := Deep.choose_lt hI
  have hget : ∀ i, i < m + 1 → ((List.range (m + 1)).map N).getD i 0 = N i := fun i hi => by simp [List.getD, hi]
  have hcs : cs = elEnc (m + 4) ((List.range (m + 1)).map N : List Int) := by
    show cs = (List.range (m + 1)).map fun i => i64 (((List.range (m + 1)).map N).getD i 0)
    apply List.ext_getElem?
    intro i
    rcases Nat.lt_or_ge i (m + 1) with hi | hi
    · rw [(hN i hi).1, List.getElem?_map, List.getElem?_range hi, Option.map_some, hget i hi]
    · rw [List.getElem?_eq_none (by omega), List.getElem?_eq_none (by simpa using hi)]
  refine ⟨_, hcs, fun k n hm => ?_⟩
  have hm' : Value.int k n ∈ cs := by rw [hcs]; exact hm
  obtain ⟨i, hi⟩ := List.getElem?_of_mem hm'
  have hil : i < m + 1 := by rw [← hlen]; exact (List.getElem?_eq_some_iff.1 hi).1
  obtain ⟨h1, h2⟩ := hN i hil
  rw [h1] at hi
  injection hi with hi
  injection hi with e1 e2
  subst e1; subst e2
  exact h2
end Go.Rx
end

section
/- Law 'LayoutAligned': each page begins at a multiple of 32, every fourth one of 128; what is told of a user word's place leads back to it. -/
namespace Go.Rx
open Go.Proofs

theorem args_conf2 {args : List V} {H : Heap} (h : ArgsOf [.el 14, .el 0, .el 0] 0 args H) : ∃ c : List Int, args = mkA [11, 0, 0] 0 c ∧ H = [] := by
  obtain ⟨c, _, rfl, _, p, _, rfl, _, n, _, rfl, _, rfl, rfl⟩ := h
  let c' : List Int := c
  let p' : Int := p
  let n' : Int := n
  exact ⟨[c'.getD 0 0, c'.getD 1 0, c'.getD 2 0, c'.getD 3 0, c'.getD 4 0, c'.getD 5 0, c'.getD 6 0, c'.getD 7 0, c'.getD 8 0, c'.getD 9 0, c'.getD 10 0, p', n'], rfl, rfl⟩

structure LayF (c L : List Int) : Prop where
  l2 : L.getD 2 0 = i c 2
  l20 : L.getD 20 0 = a9 c
  l21 : L.getD 21 0 = a10 c
  l22 : L.getD 22 0 = a11 c
  w22 : a11 c = a10 c + 32 * i c 2
  m10 : a10 c % 128 = 0
  b9 : 3 ≤ a9 c
  b10 : a9 c + 32 * i c 2 ≤ a10 c
  t10 : a10 c ≤ 100000

theorem layF {c : List Int} (R : Right c) : LayF c (layM c) := by
  obtain ⟨r0, r1, r2, r3, r4, r5, r6, r7, r8, r9, r10⟩ := R
  have hm1 : 0 ≤ i c 1 * (i c 8 + 1) := Int.mul_nonneg (by omega) (by omega)
  have hm2 : i c 1 * (i c 8 + 1) ≤ 8 * 9 := Int.mul_le_mul (by omega) (by omega) (by omega) (by omega)
  have h9 : a9 c = 3 + i c 3 + (i c 2 + 3) / 4 + 5 * i c 2 + 62 + 5 * (i c 1 * (i c 8 + 1)) + 5 * (i c 9 + 1) := rfl
  have h10 : a10 c = (a9 c + 32 * i c 2 + 127) / 128 * 128 := rfl
  exact ⟨rfl, rfl, rfl, rfl, rfl, by omega, by omega, by omega, by omega⟩

theorem u64_id {x : Int} (h0 : 0 ≤ x) (h1 : x ≤ 9223372036854775807) : IntKind.u64.wrap x = x := by rw [IntKind.wrap_u64]; omega

theorem modu {x n : Int} (h1 : 1 ≤ n) (h2 : n ≤ 9223372036854775807) : ∃ p, IntKind.i64.wrap (Int.tmod (IntKind.u64.wrap x) (IntKind.u64.wrap n)) = p ∧ 0 ≤ p ∧ p < n := by
  rw [u64_id (x := n) (by omega) h2]
  have hp := u64_pos x
  rw [Int.tmod_eq_emod_of_nonneg hp]
  have a := Int.emod_nonneg (IntKind.u64.wrap x) (show n ≠ 0 by omega)
  have b := Int.emod_lt_of_pos (IntKind.u64.wrap x) (show 0 < n by omega)
  exact ⟨_, wrap_id (by omega) (by omega), a, b⟩

theorem dfalse {p : Prop} [Decidable p] (h : ¬ p) : decide p = false := decide_eq_false h
theorem dtrue {p : Prop} [Decidable p] (h : p) : decide p = true := decide_eq_true h

theorem addr_val {L : List Int} {c : List Int} (F : LayF c L) (hr : 1 ≤ i c 2 ∧ i c 2 ≤ 256) {l0 l1 l3 l4 l5 l6 l7 l8 l9 l10 l11 l12 l13 l14 l15 l16 l17 l18 l19 l20 l22 p : Int} (h0 : 0 ≤ p) (h1 : p < i c 2) :
    v34_0 [l0, l1, L.getD 2 0, l3, l4, l5, l6, l7, l8, l9, l10, l11, l12, l13, l14, l15, l16, l17, l18, l19, l20, L.getD 21 0, l22, p] = a10 c + 32 * p := by
  obtain ⟨f2, f20, f21, f22, w, m, b9, b10, t⟩ := F
  unfold v34_0
  simp only [List.getD_cons_zero, List.getD_cons_succ, f2, f21]
  rw [dfalse (show ¬ p < 0 by omega), dfalse (show ¬ p ≥ i c 2 by omega)]
  simp (disch := omega) only [cond_false, wrap_id]
  omega

theorem place_val {L : List Int} {c : List Int} (F : LayF c L) (hr : 1 ≤ i c 2 ∧ i c 2 ≤ 256) {l0 l1 l2 l3 l4 l5 l6 l7 l8 l9 l10 l11 l12 l13 l14 l15 l16 l17 l18 l19 l20 p n a : Int} (h0 : 0 ≤ p) (h1 : p < i c 2) (h2 : 0 ≤ n) (h3 : n < 32)
    (ha : a = a10 c + 32 * p + n) :
    v37_0 [l0, l1, l2, l3, l4, l5, l6, l7, l8, l9, l10, l11, l12, l13, l14, l15, l16, l17, l18, l19, l20, L.getD 21 0, L.getD 22 0, a] = p ∧
    v37_1 [l0, l1, l2, l3, l4, l5, l6, l7, l8, l9, l10, l11, l12, l13, l14, l15, l16, l17, l18, l19, l20, L.getD 21 0, L.getD 22 0, a] = n ∧
    v37_2 [l0, l1, l2, l3, l4, l5, l6, l7, l8, l9, l10, l11, l12, l13, l14, l15, l16, l17, l18, l19, l20, L.getD 21 0, L.getD 22 0, a] = true := by
  obtain ⟨f2, f20, f21, f22, w, m, b9, b10, t⟩ := F
  unfold v37_0 v37_1 v37_2
  simp only [List.getD_cons_zero, List.getD_cons_succ, f21, f22]
  rw [dtrue (show a ≥ a10 c by omega), dtrue (show a < a11 c by omega)]
  simp (disch := omega) only [cond_true, Bool.not_true, cond_false, wrap_id, Int.tdiv_eq_ediv_of_nonneg, Int.tmod_eq_emod_of_nonneg, and_true]
  omega

theorem live_val {L : List Int} {c : List Int} (F : LayF c L) (hr : 1 ≤ i c 2 ∧ i c 2 ≤ 256) {l0 l1 l2 l3 l4 l5 l6 l7 l8 l9 l10 l11 l12 l13 l14 l15 l16 l17 l18 l19 a : Int} (h0 : a10 c ≤ a) (h1 : a < a11 c) :
    v39_0 [l0, l1, l2, l3, l4, l5, l6, l7, l8, l9, l10, l11, l12, l13, l14, l15, l16, l17, l18, l19, L.getD 20 0, L.getD 21 0, L.getD 22 0, a] = a9 c + a - a10 c := by
  obtain ⟨f2, f20, f21, f22, w, m, b9, b10, t⟩ := F
  unfold v39_0
  simp only [List.getD_cons_zero, List.getD_cons_succ, f20, f21, f22]
  rw [dtrue (show a ≥ a10 c by omega), dtrue (show a < a11 c by omega)]
  simp (disch := omega) only [cond_true, Bool.not_true, cond_false, wrap_id]

theorem bne_false' {a b : Int} (h : a = b) : (a != b) = false := by simp [h]
theorem beq_true' {a b : Int} (h : a = b) : (a == b) = true := by simp [h]

attribute [local irreducible] Loop ex exF contK roundK retK at_ bodyOf mkEnv mkA
set_option maxRecDepth 100000

theorem aligned_law : SpecOK Try.prog elTT 6 (lawS [.el 14, .el 0, .el 0]) := by
  refine spec_of_exF (cfg := cfgT 6) (cfg_ok rfl rfl rfl) sigT_ok (fn := Try.f6) (by kernel_rfl) (by kernel_rfl) (by kernel_rfl) ?_
  intro args H K h
  obtain ⟨ha, hk⟩ := h
  obtain ⟨xs, rfl, rfl⟩ := args_conf2 ha
  clear ha
  refine Eq.mpr (nf6 xs K) ⟨trivial, ?_⟩
  intro y0 y1 y2 y3 y4 y5 y6 y7 y8 y9 y10 e0 e1 e2 e3 e4 e5 e6 e7 e8 e9 e10
  have R : Right [y0, y1, y2, y3, y4, y5, y6, y7, y8, y9, y10] := by
    rw [e0, e1, e2, e3, e4, e5, e6, e7, e8, e9, e10]
    exact some_right _
  clear e0 e1 e2 e3 e4 e5 e6 e7 e8 e9 e10
  refine ⟨?_, fun hr => ?_⟩
  · intro _ y11 e11
    have F := layF R
    rw [← e11] at F
    clear e11
    have r2 : 1 ≤ y2 ∧ y2 ≤ 256 := R.h2
    refine Req_intro (by rw [u64_id (by omega) (by omega)]; simp; omega) ⟨trivial, ?_⟩
    obtain ⟨p, ep, p0, p1⟩ := modu (x := List.getD xs 11 0) (n := y2) (by omega) (by omega)
    obtain ⟨n, en, n0, n1⟩ := modu (x := List.getD xs 12 0) (n := 32) (by omega) (by omega)
    have en' : IntKind.i64.wrap (Int.tmod (IntKind.u64.wrap (List.getD xs 12 0)) 32) = n := en
    simp only [ep, en']
    intro y12 e12
    rw [addr_val F r2 p0 p1] at e12
    obtain ⟨f2, f20, f21, f22, w, m, b9, b10, t⟩ := id F
    have w' : a11 [y0, y1, y2, y3, y4, y5, y6, y7, y8, y9, y10] = a10 [y0, y1, y2, y3, y4, y5, y6, y7, y8, y9, y10] + 32 * y2 := w
    have b' : a9 [y0, y1, y2, y3, y4, y5, y6, y7, y8, y9, y10] + 32 * y2 ≤ a10 [y0, y1, y2, y3, y4, y5, y6, y7, y8, y9, y10] := b10
    rw [wrap_id (x := y12 + n) (by omega) (by omega)]
    obtain ⟨pv, nv, bv⟩ := place_val F r2 (l0 := List.getD y11 0 0) (l1 := List.getD y11 1 0) (l2 := List.getD y11 2 0) (l3 := List.getD y11 3 0) (l4 := List.getD y11 4 0) (l5 := List.getD y11 5 0) (l6 := List.getD y11 6 0) (l7 := List.getD y11 7 0) (l8 := List.getD y11 8 0) (l9 := List.getD y11 9 0) (l10 := List.getD y11 10 0) (l11 := List.getD y11 11 0) (l12 := List.getD y11 12 0) (l13 := List.getD y11 13 0) (l14 := List.getD y11 14 0) (l15 := List.getD y11 15 0) (l16 := List.getD y11 16 0) (l17 := List.getD y11 17 0) (l18 := List.getD y11 18 0) (l19 := List.getD y11 19 0) (l20 := List.getD y11 20 0) p0 p1 n0 n1 (a := y12 + n) (by omega)
    rw [pv, nv, bv]
    refine ⟨trivial, ?_⟩
    intro y13 y14 y15 e13 e14 e15
    rw [e13, e14, e15]
    have hv : ∀ y16, y16 = v38_0 [List.getD y11 0 0, List.getD y11 1 0, List.getD y11 2 0, List.getD y11 3 0, List.getD y11 4 0, List.getD y11 5 0, List.getD y11 6 0, List.getD y11 7 0, List.getD y11 8 0, List.getD y11 9 0, List.getD y11 10 0, List.getD y11 11 0, List.getD y11 12 0, List.getD y11 13 0, List.getD y11 14 0, List.getD y11 15 0, List.getD y11 16 0, List.getD y11 17 0, List.getD y11 18 0, List.getD y11 19 0, List.getD y11 20 0, List.getD y11 21 0, List.getD y11 22 0] → y16 = a10 [y0, y1, y2, y3, y4, y5, y6, y7, y8, y9, y10] := fun y16 h => h.trans f21
    have hw : ∀ y16, y16 = v15_0 [List.getD y11 0 0, List.getD y11 1 0, List.getD y11 2 0, List.getD y11 3 0, List.getD y11 4 0, List.getD y11 5 0, List.getD y11 6 0, List.getD y11 7 0, List.getD y11 8 0, List.getD y11 9 0, List.getD y11 10 0, List.getD y11 11 0, List.getD y11 12 0, List.getD y11 13 0, List.getD y11 14 0, List.getD y11 15 0, List.getD y11 16 0, List.getD y11 17 0, List.getD y11 18 0, List.getD y11 19 0, List.getD y11 20 0, List.getD y11 21 0, List.getD y11 22 0] → y16 = a11 [y0, y1, y2, y3, y4, y5, y6, y7, y8, y9, y10] := fun y16 h => h.trans f22
    rw [live_val F r2 (a := y12 + n) (by omega) (by omega), live_val F r2 (a := y12) (by omega) (by omega)]
    refine br_false (bne_false' (by rw [Int.tmod_eq_emod_of_nonneg (by omega)]; omega)) (br_intro (fun h4 => br_false (bne_false' ?_) ?_) fun _ => ?_)
    · rw [Int.tmod_eq_emod_of_nonneg (by omega)] at h4 ⊢
      simp at h4
      omega
    all_goals refine ⟨trivial, fun y16 e16 => br_false (dfalse (show ¬ y12 < y16 by rw [hv _ e16]; omega)) (br_true rfl (br_true (beq_true' rfl) (br_true (beq_true' rfl) (⟨trivial, fun y17 e17 => ⟨trivial, fun y18 e18 => br_true (beq_true' (by rw [e17, e18, wrap_id (by omega) (by omega)]; omega)) ⟨trivial, fun y19 e19 => br_true (dtrue (by rw [hw _ e19]; omega)) ⟨trivial, hk _⟩⟩⟩⟩))))⟩
  · rw [right_iff.2 R] at hr
    cases hr
end Go.Rx
end

section
/- Layer 8: where the laws begin, and the example. -/
namespace Go.Rx
open Go.Proofs
attribute [local irreducible] Loop ex exF contK roundK retK at_ bodyOf mkEnv mkA

theorem small_one {x lo hi n : Int} (h : lo ≤ x ∧ x ≤ hi) (h0 : 0 ≤ lo) (hn : 1 ≤ n) (hb : n ≤ 1000) : 1 ≤ IntKind.i64.wrap (1 + Int.tmod x n) ∧ IntKind.i64.wrap (1 + Int.tmod x n) ≤ n := by
  rw [Int.tmod_eq_emod_of_nonneg (by omega)]
  have a := Int.emod_nonneg x (show n ≠ 0 by omega)
  have b := Int.emod_lt_of_pos x (show 0 < n by omega)
  rw [wrap_id (by omega) (by omega)]
  omega

theorem small_two {x lo hi n : Int} (h : lo ≤ x ∧ x ≤ hi) (h0 : 0 ≤ lo) (hn : 1 ≤ n) : 0 ≤ Int.tmod x n ∧ Int.tmod x n ≤ n - 1 := by
  rw [Int.tmod_eq_emod_of_nonneg (by omega)]
  have a := Int.emod_nonneg x (show n ≠ 0 by omega)
  have b := Int.emod_lt_of_pos x (show 0 < n by omega)
  omega

structure SmallB (c : List Int) : Prop where
  h0 : 1 ≤ i c 0 ∧ i c 0 ≤ 4
  h1 : 1 ≤ i c 1 ∧ i c 1 ≤ 2
  h2 : 1 ≤ i c 2 ∧ i c 2 ≤ 9
  h3 : 1 ≤ i c 3 ∧ i c 3 ≤ 4
  h7 : 1 ≤ i c 7 ∧ i c 7 ≤ 3
  h8 : 0 ≤ i c 8 ∧ i c 8 ≤ 2
  h9 : 0 ≤ i c 9 ∧ i c 9 ≤ 3
  h10 : 1 ≤ i c 10 ∧ i c 10 ≤ 3

theorem small_right {xs c : List Int} (h : SmallC xs c) : Right c ∧ SmallB c := by
  obtain ⟨rfl⟩ := h
  obtain ⟨r0, r1, r2, r3, r4, r5, r6, r7, r8, r9, r10⟩ := some_right [xs.getD 0 0, xs.getD 1 0, xs.getD 2 0, xs.getD 3 0, xs.getD 4 0, xs.getD 5 0, xs.getD 6 0, xs.getD 7 0, xs.getD 8 0, xs.getD 9 0, xs.getD 10 0]
  have b : SmallB (smallM xs) := ⟨small_one (n := 4) r0 (by decide) (by decide) (by decide), small_one (n := 2) r1 (by decide) (by decide) (by decide), small_one (n := 9) r2 (by decide) (by decide) (by decide), small_one (n := 4) r3 (by decide) (by decide) (by decide),
    small_one (n := 3) r7 (by decide) (by decide) (by decide), small_two (n := 3) r8 (by decide) (by decide), small_two (n := 4) r9 (by decide) (by decide), small_one (n := 3) r10 (by decide) (by decide) (by decide)⟩
  obtain ⟨b0, b1, b2, b3, b7, b8, b9, b10⟩ := b
  exact ⟨⟨by omega, by omega, by omega, by omega, r4, r5, r6, by omega, by omega, by omega, by omega⟩, ⟨b0, b1, b2, b3, b7, b8, b9, b10⟩⟩

theorem lay8_of {c L : List Int} (R : Right c) (h : LayC c L) : Lay8 (L.getD 2 0) (L.getD 11 0) (L.getD 22 0) ∧ L.getD 22 0 = a11 c ∧ L.getD 2 0 = i c 2 ∧ L.getD 11 0 = a0 c ∧ 0 ≤ a11 c ∧ a11 c ≤ 200000 := by
  obtain ⟨rfl⟩ := h
  have F := layF R
  obtain ⟨f2, f20, f21, f22, w, m, b9, b10, t⟩ := F
  have h2 := R.h2; have h3 := R.h3; have h1 := R.h1; have h8 := R.h8; have hn9 := R.h9
  have e11 : (layM c).getD 11 0 = a0 c := rfl
  have hm1 : 0 ≤ i c 1 * (i c 8 + 1) := Int.mul_nonneg (by omega) (by omega)
  have e9 : a9 c = 3 + i c 3 + (i c 2 + 3) / 4 + 5 * i c 2 + 62 + 5 * (i c 1 * (i c 8 + 1)) + 5 * (i c 9 + 1) := rfl
  have e0 : a0 c = 3 + i c 3 := rfl
  rw [f2, f22, e11]
  exact ⟨⟨by omega, by omega, by omega⟩, rfl, rfl, rfl, by omega, by omega⟩

theorem sig85_ok : ∀ g s, sig85 g = some s → SpecOK Try.prog elTT g s := by
  intro g s hs
  unfold sig85 at hs
  split at hs
  · injection hs with hs; subst hs
    exact spec_mono (fun args H K h => by
      unfold t12 gS at h
      simp only at h
      split at h
      · rename_i xs hxs
        unfold qOf
        simp only [hxs]
        exact ⟨fun _ L hL => h.2 L ⟨hL⟩, fun hr => by rw [h.1] at hr; cases hr⟩
      · exact h.elim) qOf_ok
  · injection hs with hs; subst hs
    exact fS_mono (fun xs h => ⟨trivial, by
      have e := e15_0 (right_iff.1 h)
      have e2 := (lay8_of (right_iff.1 h) ⟨rfl⟩).2.1
      have e3 : v41_0 xs = v41_0 [List.getD xs 0 0, List.getD xs 1 0, List.getD xs 2 0, List.getD xs 3 0, List.getD xs 4 0, List.getD xs 5 0, List.getD xs 6 0, List.getD xs 7 0, List.getD xs 8 0, List.getD xs 9 0, List.getD xs 10 0] := rfl
      rw [e3, ← e, ← e2]
      rfl⟩) ok41
  · injection hs with hs; subst hs
    exact spec_mono (fun args H K h => by
      unfold t95 gS at h
      simp only at h
      split at h
      · rename_i xs hxs
        unfold s95 fS
        simp only [hxs]
        exact ⟨trivial, h.2 (smallM xs) ⟨rfl⟩⟩
      · exact h.elim) ok95
  · cases hs

theorem t85_ok : SpecOK Try.prog elTT 85 t85 := by
  refine spec_of_exF (cfg := cfg85) (cfg_ok rfl rfl rfl) sig85_ok (fn := Try.f85) (by kernel_rfl) (by kernel_rfl) (by kernel_rfl) ?_
  intro args H K h
  unfold t85 at h
  simp only at h
  split at h
  · rename_i xs hxs
    have e := shA_mk [] hxs
    simp only [List.length_nil, List.nil_append] at e
    rw [e]
    refine Eq.mpr (nf85 xs K) ⟨trivial, fun c hc => ?_⟩
    have hc' : SmallC xs c := ⟨hc.eq⟩
    obtain ⟨R, _⟩ := small_right hc'
    have R' : rightM c = true := right_iff.2 R
    refine ⟨R', fun L hL => ⟨R', ?_⟩⟩
    have hL' : LayC c L := ⟨hL.eq⟩
    obtain ⟨_, _, _, _, h5, h6⟩ := lay8_of R hL'
    have hk := h c L hc' hL'
    exact ⟨Req_intro (decide_eq_true ⟨h5, Int.le_refl _, by show a11 c ≤ 1048576; omega⟩) hk, Req_intro (decide_eq_true ⟨h5, Int.le_refl _, by show a11 c ≤ 1048576; omega⟩) hk, Req_intro (decide_eq_true ⟨h5, Int.le_refl _, by show a11 c ≤ 1048576; omega⟩) hk⟩
  · exact h.elim

theorem spec_ex {P : Program} {elT : ET} {g : FuncId} {σ : Type} {S : σ → Spec} {s : Spec} (y0 : σ) (hS : ∀ y, SpecOK P elT g (S y)) (h : ∀ (args : List V) (H : Heap) (K : V → Heap → Prop), s.tr args H K → ∃ y, (S y).tr args H K) : SpecOK P elT g s :=
  ⟨(hS y0).1, fun args H K ht => by
    obtain ⟨y, hy⟩ := h args H K ht
    exact (hS y).2 args H K hy⟩

theorem do87A_ok : SpecOK Try.prog elTT 86 do87A := spec_ex (S := do87) [] do87_ok (fun args H K h => by
  unfold do87A at h
  simp only at h
  split at h
  · rename_i ws U1 lv U2 v
    split at h
    · rename_i ys hys
      have e := shA_mk [] hys
      simp only [List.length_nil, List.nil_append] at e
      have e2 : lv = icV 23 0 ys := by
        unfold mkA at e
        injection e with e _
        injection e
      refine ⟨ys, ?_⟩
      unfold do87
      exact ⟨h.1, e2, h.2⟩
    · exact h.elim
  · exact h.elim)

theorem sig65_ok : ∀ g s, sig65 g = some s → SpecOK Try.prog elTT g s := by
  intro g s hs
  unfold sig65 at hs
  split at hs
  · injection hs with hs; subst hs; exact sig85_ok 12 _ rfl
  · injection hs with hs; subst hs; exact fS_mono (fun xs _ => ⟨trivial, rfl⟩) ok14
  · injection hs with hs; subst hs; exact fS_mono (fun xs _ => ⟨trivial, rfl⟩) ok15
  · injection hs with hs; subst hs; exact t20_ok
  · injection hs with hs; subst hs; exact t85_ok
  · injection hs with hs; subst hs; exact do87A_ok
  · cases hs

theorem rep_get (W n : Nat) : (List.replicate W (0 : Int)).getD n 0 = 0 := by
  simp only [List.getD, List.getElem?_replicate]
  split <;> rfl

theorem ens_zero {W : Nat} {tb : Int} (h : 0 ≤ tb) : ensM (List.replicate W 0) 5 tb 3 2 = (5, ((List.replicate W (0 : Int)).set tb.toNat 1).set (tb + 1).toNat 1) := by
  have hk : ensK 5 3 2 = 2 := by decide
  have h0 : (3 : Int) / 4 = 0 := by decide
  have e1 : tb + (0 + ((0 : Nat) : Int)) = tb := by omega
  have e2 : tb + (0 + ((1 : Nat) : Int)) = tb + 1 := by omega
  have ht0 : turnB (List.replicate W 0) 5 tb (0 + ((0 : Nat) : Int)) 1 = true := by
    unfold turnB
    rw [rep_get]
    rfl
  have hg1 : ensG 5 tb (List.replicate W 0) 0 1 = (4, (List.replicate W (0 : Int)).set tb.toNat 1) := by
    simp only [ensG, turnU, ht0, cond_true, e1]
    rfl
  have hne : tb.toNat ≠ (tb + 1).toNat := by omega
  have ht1 : turnB ((List.replicate W (0 : Int)).set tb.toNat 1) 5 tb (0 + ((1 : Nat) : Int)) 1 = true := by
    unfold turnB
    rw [e2, List.getD, List.getElem?_set_ne hne]
    have := rep_get W (tb + 1).toNat
    unfold List.getD at this
    rw [this]
    rfl
  unfold ensM
  rw [hk, h0]
  show (bif turnB (ensG 5 tb (List.replicate W 0) 0 1).2 5 tb (0 + ((1 : Nat) : Int)) 1 then _ else _, turnU (ensG 5 tb (List.replicate W 0) 0 1).2 5 tb (0 + ((1 : Nat) : Int)) 1) = _
  rw [hg1]
  unfold turnU
  simp only [ht1, cond_true, e2]
  rfl

theorem lives8_ok : SpecOK Try.prog elTT 65 trueS :=
  fS_ok (cfg := cfg65) (cfg_ok rfl rfl rfl) sig65_ok (fn := Try.f65) (by kernel_rfl) (by kernel_rfl) (by kernel_rfl) fun xs K _ hk => Eq.mpr (nf65 xs K) (by
    intro c L hc hL
    have hc' : SmallC [0, 0, 4, 0, 0, 0, 0, 0, 0, 0, 0] c := hc
    obtain ⟨R, _⟩ := small_right hc'
    obtain ⟨hL0⟩ := hL
    have R2 : Right [L.getD 0 0, L.getD 1 0, 5, L.getD 3 0, L.getD 4 0, L.getD 5 0, L.getD 6 0, L.getD 7 0, L.getD 8 0, L.getD 9 0, L.getD 10 0] := by
      subst hL0
      exact ⟨R.h0, R.h1, ⟨by show (1 : Int) ≤ 5; omega, by show (5 : Int) ≤ 256; omega⟩, R.h3, R.h4, R.h5, R.h6, R.h7, R.h8, R.h9, R.h10⟩
    refine ⟨trivial, right_iff.2 R2, fun M hM => ?_⟩
    obtain ⟨m1, m2, m3, m4, m5, m6⟩ := lay8_of R2 hM
    have m3 : M.getD 2 0 = 5 := m3
    rw [← m2] at m5 m6
    have tb := m1.htb
    have wd := m1.hwd
    rw [m3] at wd
    refine ⟨trivial, Req_intro (decide_eq_true ⟨m5, Int.le_refl _, by omega⟩) ⟨Nat.ble_eq_true_of_le (by rw [List.length_replicate]; omega), ⟨m1, by show M.getD 22 0 ≤ _; rw [List.length_replicate]; omega⟩, fun nd => ?_⟩⟩
    rw [m3, ens_zero tb.1]
    rw [m3] at m1
    have hin : inR (tblI 5 (M.getD 11 0) 1) (((List.replicate (M.getD 22 0).toNat (0 : Int)).set (M.getD 11 0).toNat 1).set (M.getD 11 0 + 1).toNat 1).length = true := by
      have : tblI 5 (M.getD 11 0) 1 = M.getD 11 0 + 1 := rfl
      rw [this]
      exact inR_int (by omega) (by simp only [List.length_set, List.length_replicate]; omega)
    have hoff : offs (tblI 5 (M.getD 11 0) 1) 0 = tblI 5 (M.getD 11 0) 1 := by
      have : tblI 5 (M.getD 11 0) 1 = M.getD 11 0 + 1 := rfl
      rw [this]
      have e : M.getD 11 0 + 1 = (((M.getD 11 0 + 1).toNat : Nat) : Int) := by omega
      rw [e]; rfl
    refine br_true rfl (br_true (by simp) ⟨m1, Req_intro hin (Req_intro (by rw [hoff]; exact hin) ?_)⟩)
    rw [hoff]
    have : tblI 5 (M.getD 11 0) 1 = M.getD 11 0 + 1 := rfl
    rw [this]
    have hv : (((List.replicate (M.getD 22 0).toNat (0 : Int)).set (M.getD 11 0).toNat 1).set (M.getD 11 0 + 1).toNat 1).getD (M.getD 11 0 + 1).toNat 0 = 1 := by
      have hlt : (M.getD 11 0 + 1).toNat < (M.getD 22 0).toNat := by omega
      rw [List.getD, List.getElem?_set_self (by simp only [List.length_set, List.length_replicate]; exact hlt)]
      rfl
    rw [hv]
    exact hk)
end Go.Rx
end

section
/- Law 'ChunkParts'. -/
namespace Go.Rx
open Go.Proofs
structure SomeC (xs c : List Int) : Prop where
  mk ::
  eq : c = someM xs
def t17 : Spec := gS [11] (fun _ => True) SomeC (fun c => .agg (icV 11 0 c))
def t62 : Spec := fS [11, 0] (fun xs => 1 ≤ i xs 2 ∧ i xs 2 ≤ 256) (fun xs => .tup [vi (pagesI (i xs 2) (i xs 11)), vi (pagesN (i xs 2) (i xs 11))])
def t64 : Spec := fS [0] (fun ys => i ys 0 ≤ 9223372036854775807) (fun ys => vi (chunkI (i ys 0)))
noncomputable def sig10 : FuncId → Option Spec := fun f => match f with
  | 12 => some t12
  | 17 => some t17
  | 61 => some t61
  | 62 => some t62
  | 63 => some t63
  | 64 => some t64
  | 65 => some trueS
  | _ => none
noncomputable def cfg10 : Cfg := { cfgB with sigs := sig10 }
end Go.Rx
end

section
/- Normal forms of the program's code (by a program of this session's; the kernel checks each). -/
namespace Go.Rx
open Go.Proofs
set_option maxRecDepth 100000
theorem nf10 (xs : List Int) (K : V → Heap → Prop) : (exF cfg10 Try.f10 (mkA [11, 0, 0] 0 xs) [] K) = (
    ((
      True) ∧ (
      ∀ (y0 : List Int), (
        ((Go.Rx.SomeC [List.getD xs 0 0, List.getD xs 1 0, List.getD xs 2 0, List.getD xs 3 0, List.getD xs 4 0, List.getD xs 5 0, List.getD xs 6 0, List.getD xs 7 0, List.getD xs 8 0, List.getD xs 9 0, List.getD xs 10 0] y0) → (
          ((
            (Go.Rx.rightM [List.getD y0 0 0, List.getD y0 1 0, List.getD y0 2 0, List.getD y0 3 0, List.getD y0 4 0, List.getD y0 5 0, List.getD y0 6 0, List.getD y0 7 0, List.getD y0 8 0, List.getD y0 9 0, List.getD y0 10 0] = Bool.true)) ∧ (
            ∀ (y1 : List Int), (
              ((Go.Rx.LayC [List.getD y0 0 0, List.getD y0 1 0, List.getD y0 2 0, List.getD y0 3 0, List.getD y0 4 0, List.getD y0 5 0, List.getD y0 6 0, List.getD y0 7 0, List.getD y0 8 0, List.getD y0 9 0, List.getD y0 10 0] y1) → (
                ((
                  (Go.Rx.Lay8 (List.getD y1 2 0) (List.getD y1 11 0) (List.getD y1 22 0))) ∧ (
                  ((
                    ((
                      (Int.NonNeg (List.getD y0 2 0 - 1))) ∧ (
                      (Int.NonNeg (256 - List.getD y0 2 0))))) ∧ (
                    br (Go.Rx.pagesI (List.getD y1 2 0) (List.getD xs 12 0) == Go.Rx.pagesI (List.getD y0 2 0) (List.getD xs 12 0))
                      (
                      br (Go.Rx.pagesN (List.getD y1 2 0) (List.getD xs 12 0) == Go.Rx.pagesN (List.getD y0 2 0) (List.getD xs 12 0))
                        (
                        ((
                          (Int.NonNeg (9223372036854775807 - List.getD xs 11 0))) ∧ (
                          ((
                            (Int.NonNeg (9223372036854775807 - List.getD xs 11 0))) ∧ (
                            br (Go.Rx.chunkI (List.getD xs 11 0) == Go.Rx.chunkI (List.getD xs 11 0))
                              (
                              ((
                                True) ∧ (
                                K (vb (Bool.true)) [])))
                              (
                              K (vb (Bool.false)) []))))))
                        (
                        K (vb (Bool.false)) []))
                      (
                      K (vb (Bool.false)) [])))))))))))))))) := by
  kernel_rfl

end Go.Rx
end

section
/- Law 'ChunkParts': of any page its chunk, and of any chunk its pages, are as the document says. -/
namespace Go.Rx
open Go.Proofs
theorem args_conf2b {args : List V} {H : Heap} (h : ArgsOf [.el 14, .el 0, .el 0] 0 args H) : ∃ c : List Int, args = mkA [11, 0, 0] 0 c ∧ H = [] ∧ c.getD 11 0 ≤ 9223372036854775807 := by
  obtain ⟨c, _, rfl, _, p, _, rfl, hp, n, _, rfl, _, rfl, rfl⟩ := h
  let c' : List Int := c
  let p' : Int := p
  let n' : Int := n
  have h1 := hp .i64 p (by show Value.int .i64 p ∈ [i64 p]; simp)
  exact ⟨[c'.getD 0 0, c'.getD 1 0, c'.getD 2 0, c'.getD 3 0, c'.getD 4 0, c'.getD 5 0, c'.getD 6 0, c'.getD 7 0, c'.getD 8 0, c'.getD 9 0, c'.getD 10 0, p', n'], rfl, rfl, (bounds_i64 h1).2⟩

attribute [local irreducible] Loop ex exF contK roundK retK at_ bodyOf mkEnv mkA

theorem sig10_ok : ∀ g s, sig10 g = some s → SpecOK Try.prog elTT g s := by
  intro g s hs
  unfold sig10 at hs
  split at hs
  · injection hs with hs; subst hs; exact sig85_ok 12 _ rfl
  · injection hs with hs; subst hs
    exact spec_mono (fun args H K h => by
      unfold t17 gS at h
      simp only at h
      split at h
      · rename_i xs hxs
        unfold s17 fS
        simp only [hxs]
        exact ⟨trivial, h.2 (someM xs) ⟨rfl⟩⟩
      · exact h.elim) ok17
  · injection hs with hs; subst hs; exact t61_ok
  · injection hs with hs; subst hs
    exact fS_mono (fun xs h => by
      obtain ⟨h1, h2⟩ := h
      unfold i at h1 h2
      refine ⟨trivial, ?_⟩
      unfold v62_0 v62_1 v19_0 pagesI pagesN thereB i
      simp only [List.getD_cons_zero, List.getD_cons_succ]
      generalize xs.getD 11 0 = k at *
      generalize xs.getD 2 0 = p at *
      rw [wrap_id (x := p + 3) (by omega) (by omega), Int.tdiv_eq_ediv_of_nonneg (by omega), wrap_id (x := (p + 3) / 4) (by omega) (by omega)]
      by_cases a : 0 ≤ k
      · rw [decide_eq_true (show k ≥ 0 from a)]
        by_cases b : k < (p + 3) / 4
        · rw [decide_eq_true b, wrap_id (x := 4 * k) (by omega) (by omega), wrap_id (by omega) (by omega), imin4]; rfl
        · rw [decide_eq_false b]; rfl
      · rw [decide_eq_false (show ¬ k ≥ 0 from a)]; rfl) ok62
  · injection hs with hs; subst hs; exact t63_ok
  · injection hs with hs; subst hs
    exact fS_mono (fun xs h => by
      refine ⟨trivial, ?_⟩
      unfold i at h
      unfold v64_0 chunkI i
      by_cases a : xs.getD 0 0 < 0
      · rw [decide_eq_true a]; rfl
      · rw [decide_eq_false a, Int.tdiv_eq_ediv_of_nonneg (by omega), wrap_id (by omega) (by omega)]) ok64
  · injection hs with hs; subst hs; exact lives8_ok
  · cases hs

theorem parts_law : SpecOK Try.prog elTT 10 (lawS [.el 14, .el 0, .el 0]) := by
  refine spec_of_exF (cfg := cfg10) (cfg_ok rfl rfl rfl) sig10_ok (fn := Try.f10) (by kernel_rfl) (by kernel_rfl) (by kernel_rfl) ?_
  intro args H K h
  obtain ⟨ha, hk⟩ := h
  obtain ⟨xs, rfl, rfl, hp⟩ := args_conf2b ha
  clear ha
  refine Eq.mpr (nf10 xs K) ⟨trivial, fun c hc => ?_⟩
  obtain ⟨hc⟩ := hc
  have R : Right c := by rw [hc]; exact some_right _
  have R' : rightM c = true := right_iff.2 R
  refine ⟨R', fun L hL => ?_⟩
  have hL' : LayC c L := ⟨hL.eq⟩
  obtain ⟨l1, l2, l3, l4, l5, l6⟩ := lay8_of R hL'
  have l3 : L.getD 2 0 = c.getD 2 0 := l3
  have r2 : 1 ≤ c.getD 2 0 ∧ c.getD 2 0 ≤ 256 := R.h2
  refine ⟨l1, r2, ?_⟩
  rw [l3]
  exact br_true (by simp) (br_true (by simp) ⟨hp, hp, br_true (by simp) ⟨trivial, hk _⟩⟩)
end Go.Rx
end
