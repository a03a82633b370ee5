/- Slices that are written out; calls. -/
import Derived.Test.YtimebkgadobpoaaRx4
namespace Go.Rx

variable {cfg : Cfg} {lk : Option (Blk → Bool)} {H : Heap} {ρ : List Value} {F : Nat → List Nat} {w : World} {k : V → Heap → Prop}

theorem run_newObj' (P : Program) (w : World) (o : Obj) : (newObj o).run P w = .ok w.heap.size (w.alloc o) := rfl

theorem vcells_ext {v : V} {x : Value} {e : List Value} (h : extsV (vcells v) = some e) (hx : Rel ρ v x) : x.cells.toList = e := by
  have hd := extsV_den (ρ := ρ) h
  unfold vcells at hd h
  split at hd
  · have ha := hx.den (by simp)
    simp only [V.den] at ha
    rw [hd] at ha
    injection ha with ha; subst ha
    rfl
  · rename_i cs
    have ha := den_ext hx
    subst ha
    rw [denL_ext] at hd
    injection hd with hd
  · rename_i h1 h2
    cases v with
    | ext y =>
      have ha := den_ext hx
      subst ha
      simp only [denL, V.den] at hd
      injection hd with hd
      subst hd
      cases x <;> first | rfl | exact absurd rfl (h2 _)
    | agg cs => exact absurd rfl (h1 cs)
    | _ => simp [extsV, extV] at h

theorem fill_parts {env : Env} {a : Act} (hE : ∀ t, Rel ρ (env t) (a.tmps.getD t undef)) (m : Nat) : ∀ (ps : List (Nat × Operand)) (n : Nat) (es : List (List Value)) (pre rest : List Value), partsOf env ps n = some es →
    (∀ e ∈ es, e.length = m) → pre.length = n * m → rest.length = es.length * m →
    Instr.fill (fun i => some (i * m, m)) (pre ++ rest).toArray (ps.map fun p => (p.1, a.eval p.2)) = some (pre ++ es.flatten).toArray
  | [], n, es, pre, rest, h, _, _, hr => by
    simp only [partsOf, Option.some.injEq] at h
    subst h
    have : rest = [] := List.eq_nil_of_length_eq_zero (by simpa using hr)
    subst this
    simp [Instr.fill]
  | (i, x) :: r, n, es, pre, rest, h, hm, hp, hr => by
    simp only [partsOf] at h
    cases hi : Nat.beq i n with
    | false => rw [hi] at h; cases h
    | true =>
      rw [hi] at h
      simp only [cond_true] at h
      obtain rfl := Nat.eq_of_beq_eq_true hi
      split at h
      · rename_i e es' he hes
        injection h with h
        subst h
        have hx := vcells_ext he (REnv.ev hE x)
        have hel : e.length = m := hm e (by simp)
        have hsz : (a.eval x).cells.size = m := by rw [← Array.length_toList, hx, hel]
        have hrl : rest.length = m + es'.length * m := by rw [hr, List.length_cons, Nat.add_mul]; omega
        simp only [List.map_cons, Instr.fill, hsz]
        have hfit : ¬ (i * m + m > (pre ++ rest).toArray.size) := by simp; omega
        rw [if_neg (by simp; omega)]
        have hf := fold_cells (i * m) (a.eval x) (pre ++ rest).toArray (by rw [hsz]; simp; omega)
        have e2 : ((a.eval x).cells.zipIdx.foldl (fun (cs : Array Value) (p : Value × Nat) => cs.setIfInBounds (i * m + p.2) p.1) (pre ++ rest).toArray) = ((pre ++ e) ++ rest.drop m).toArray := by
          apply Array.ext'
          rw [hf, hx]
          rw [← hp, ← hel]
          simp only [List.take_left', List.drop_length_add_append]
        have ih := fill_parts hE m r (i + 1) es' (pre ++ e) (rest.drop m) hes (fun e' h' => hm e' (by simp [h'])) (by rw [List.length_append, hp, hel, Nat.add_mul]; omega) (by simp; omega)
        rw [← e2] at ih
        rw [ih]
        simp
      · cases h

theorem decAll_spec {t : Nat} : ∀ {es : List (List Value)} {l : List (El t)}, decAll t es = some l → es = l.map (elEnc t)
  | [], l, h => by simp only [decAll, Option.some.injEq] at h; subst h; rfl
  | e :: r, l, h => by
    simp only [decAll] at h
    split at h
    · rename_i x xs hx hxs
      injection h with h
      subst h
      rw [List.map_cons, elDec_enc t e x hx, ← decAll_spec hxs]
    · cases h

theorem partsOf_len {env : Env} : ∀ {ps : List (Nat × Operand)} {n : Nat} {es : List (List Value)}, partsOf env ps n = some es → es.length = ps.length
  | [], n, es, h => by simp only [partsOf, Option.some.injEq] at h; subst h; rfl
  | (i, x) :: r, n, es, h => by
    simp only [partsOf] at h
    cases hi : Nat.beq i n with
    | false => rw [hi] at h; cases h
    | true =>
      rw [hi] at h
      simp only [cond_true] at h
      split at h
      · rename_i e es' he hes
        injection h with h
        subst h
        simp [partsOf_len hes]
      · cases h

theorem buildSliceV_sound (ok : CfgOK cfg) {t : TypeId} {n : Nat} {parts : Array (Nat × Operand)} {env : Env} {a : Act} (h : buildSliceV cfg t n parts.toList env H k) (hE : ∀ t, Rel ρ (env t) (a.tmps.getD t undef)) (hs : Sat cfg.elT ρ F H w) :
    ∃ v z ρ' F' H' w', k v H' ∧ Rel ρ' v z ∧ Step cfg lk ρ F H w ρ' F' H' w' ∧ (Instr.buildSlice t n (parts.map fun (i, x) => (i, a.eval x))).run cfg.P w = .ok z w' := by
  unfold buildSliceV at h
  split at h
  · exact h.elim
  · rename_i tg ht
    have hc := cond_elim h
    have hc1 := hc.1
    simp only [Bool.and_eq_true] at hc1
    have hn := Nat.eq_of_beq_eq_true hc1.1
    have hn2 := Nat.le_of_ble_eq_true hc1.2
    have hh := hc.2
    clear h hc
    obtain ⟨u1, inf, z, u2, u3, u4, u5, u6⟩ := ok.tags t tg ht
    split at hh
    · rename_i es hes
      split at hh
      · rename_i l hl
        have hel := decAll_spec hl
        have hlen := partsOf_len hes
        have hpos := elM_pos tg
        have hm : elM tg ≤ 1048576 := by have := ok.small t tg ht; omega
        have hll : l.length = n := by rw [hn, ← hlen, hel, List.length_map]
        have hzs : z.cells.size = elM tg := by rw [u4]; simp [elEnc_len]
        have hfill := fill_parts hE (elM tg) parts.toList 0 es [] (madeCells z.cells (n * elM tg)).toList hes (fun e he => by rw [hel] at he; simp at he; obtain ⟨x, _, rfl⟩ := he; exact elEnc_len tg x) (by simp)
          (by rw [Array.length_toList, size_madeCells, hlen, hn])
        have hflat : es.flatten = flat tg l := by rw [hel]; simp [flat, List.flatMap]
        have hrun : (Instr.buildSlice t n (parts.map fun (i, x) => (i, a.eval x))).run cfg.P w = .ok (.slice (some ⟨w.heap.size, 0, none⟩) n n) (w.alloc (.cells (flat tg l).toArray (cfg.elT tg))) := by
          unfold Instr.buildSlice
          have hsmall : ¬ (n * elM tg > 2 ^ 24) := by
            have : n * elM tg ≤ 4096 * elM tg := Nat.mul_le_mul_right _ hn2
            have : elM tg ≤ 4096 := ok.small t tg ht
            have : 4096 * elM tg ≤ 4096 * 4096 := Nat.mul_le_mul_left _ this
            omega
          have hpl : (parts.map fun (i, x) => (i, a.eval x)).toList = parts.toList.map fun p => (p.1, a.eval p.2) := by simp
          rw [hpl]
          by_cases h0 : n * elM tg = 0
          · have hn0 : n = 0 := by
              rcases Nat.mul_eq_zero.1 h0 with h | h
              · exact h
              · omega
            subst hn0
            simp only [List.nil_append, hflat] at hfill
            have e0 : (madeCells z.cells (0 * elM tg)).toList.toArray = #[] := by simp [madeCells]
            rw [e0] at hfill
            have e1 : ∀ f : Nat → Value, Array.map f (Array.range (0 * elM tg)) = #[] := fun f => by simp
            have hsm0 : ¬ ((0 : Nat) > 2 ^ 24) := by omega
            rw [Nat.zero_mul] at e1
            simp only [Sem.run_bind, run_underlying u1, Result.andThen_ok, run_sizeOf' u2, u5, Nat.zero_mul, hsm0, if_false, if_true, Sem.run_pure, e1, hfill, Sem.run_bind, newRow, run_newObj', Result.andThen_ok, Sem.run_pure]
          · simp only [List.nil_append, hflat, Array.toArray_toList] at hfill
            have hz0 : (zeroValue (cfg.elT tg)).run cfg.P w = .ok z w := by simp [zeroValue, typeInfo, u2, u3]
            have e : ∀ z : Array Value, (Array.map (fun x => z[x % z.size]!) (Array.range (n * elM tg))) = madeCells z (n * elM tg) := fun _ => rfl
            simp only [Sem.run_bind, run_underlying u1, Result.andThen_ok, run_sizeOf' u2, u5, hsmall, if_false, h0, hz0, Sem.run_pure, e, hfill, newRow, run_newObj']
        refine ⟨_, .slice (some ⟨w.heap.size, 0, none⟩) n n, _, _, _, _, hh, .inr ?_, Step.row hs (x := .slice (some ⟨w.heap.size, 0, none⟩) n n) ?_ (World.grownBy_alloc w _ none), hrun⟩
        · simp only [V.den, get_new hs]
        · have := World.ownsRow_lit (base := w.heap.size) (e := cfg.elT tg) (size := elM tg) w (flat tg l).toArray l.length (Nat.le_refl _) (by simp only [maxLen]; omega) (by simp [flat_len])
          rw [hll] at this ⊢
          simpa using this
      · exact hh.elim
    · exact hh.elim

end Go.Rx
