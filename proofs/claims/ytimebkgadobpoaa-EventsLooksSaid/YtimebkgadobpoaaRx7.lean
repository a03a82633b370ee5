/- Operations, and regions of them. -/
import Derived.Test.YtimebkgadobpoaaRxM
namespace Go.Rx

variable {cfg : Cfg} {lk : Option (Blk → Bool)} {H : Heap} {ρ : List Value} {F : Nat → List Nat} {w : World} {k : V → Heap → Prop}

theorem upon_value' {P : Program} {o : Oper} {a : Act} {next : Act → World → Prop} {Q : Exit → Act → World → Prop} {s : Sem Next} {x : Value} {w w' : World} (h : s.run P w = .ok (.value x) w') (hn : next (a.put o.dst x) w') :
    o.upon P a next Q (s.run P w) := by rw [h]; exact hn

theorem upon_skip' {P : Program} {o : Oper} {a : Act} {next : Act → World → Prop} {Q : Exit → Act → World → Prop} {s : Sem Next} {w w' : World} (h : s.run P w = .ok .skip w') (hn : next (a.put o.dst undef) w') :
    o.upon P a next Q (s.run P w) := by rw [h]; exact hn

theorem run_alloc' {P : Program} {T : TypeId} {inf : TypeInfo} {z : Value} (h1 : P.info? T = some inf) (h2 : inf.zero = some z) (w : World) :
    (Instr.alloc T true (.tuple #[])).run P w = .ok (.pointer (some ⟨w.heap.size, 0, none⟩)) (w.alloc (.cells z.cells T)) := by
  simp only [Instr.alloc, Sem.run_bind, zeroValue, typeInfo, newVar, newRow, run_newObj', Result.andThen_ok, Sem.run_pure, program, Sem.run, h1, h2, pure]

theorem run_box' {P : Program} {T : TypeId} (v : Value) (w : World) :
    (Instr.box T v).run P w = .ok (.pointer (some ⟨w.heap.size, 0, none⟩)) (w.alloc (.cells v.cells T)) := by
  simp only [Instr.box, Sem.run_bind, newVar, newRow, run_newObj', Result.andThen_ok, Sem.run_pure]

theorem told_next {P : Program} {m : Sem Value} {x : Value} {w w' : World} (h : m.run P w = .ok x w') : ((do pure (.value (← m))) : Sem Next).run P w = .ok (.value x) w' := by
  rw [Sem.run_bind, h]; rfl

theorem told_skip {P : Program} {m : Sem Unit} {w w' : World} (h : m.run P w = .ok () w') : ((do m; pure .skip) : Sem Next).run P w = .ok .skip w' := by
  rw [Sem.run_bind, h]; rfl

theorem run_callFunc {P : Program} {g : FuncId} {fn : Func} (h1 : P.funcs[g]? = some fn) (h2 : (fn.name == "runtime.NumGoroutine") = false) (h3 : fn.body.isNone = false) (args : Array Value) (w : World) :
    (callFunc g args).run P w = .ok (.enter g args) w := by
  have h2' : ¬ fn.name = "runtime.NumGoroutine" := by simpa using h2
  have h3' : ¬ fn.body = none := fun e => by rw [e] at h3; cases h3
  simp [callFunc, h1, h2', h3']

theorem loudOp_sound (ok : CfgOK cfg) (hsig : ∀ g s, cfg.sigs g = some s → SpecOK cfg.P cfg.elT g s) (hlk : LkOK lk) {o : Oper} {env : Env} {a : Act} (h : loudOp cfg lk o env H k) (hE : ∀ t, Rel ρ (env t) (a.tmps.getD t undef))
    (hs : Sat cfg.elT ρ F H w) {next : Act → World → Prop} {Q : Exit → Act → World → Prop}
    (hn : ∀ v x ρ' F' H' w', k v H' → Rel ρ' v x → Step cfg lk ρ F H w ρ' F' H' w' → next (a.put o.dst x) w') : o.wp cfg.P a w next Q := by
  obtain ⟨dst, op, type, pos, after, guard⟩ := o
  have he := fun x => REnv.ev hE x
  unfold Oper.wp
  unfold loudOp at h
  split at h <;> first | exact h.elim | (rename_i hop; simp only at hop; subst hop)
  · rename_i T
    split at h
    · rename_i i hi
      obtain ⟨inf, z, i1, i2, i3, i4, i5⟩ := Cfg.ty_spec hi
      refine upon_value' (told_next (run_alloc' i1 i3 w)) (hn _ _ _ _ _ _ h ?_ (by have := Step.cells (lk := lk) (T := T) (U := allocTy cfg dst T) hs (denL_ext (ρ := ρ) i.zero); rw [i5, Array.toArray_toList] at this; rw [i5]; exact this))
      exact mk_ptr (get_new hs _)
    · exact h.elim
  · rename_i T x
    have hc := cond_elim h
    have hd := vcells_den (he x) hc.1
    refine upon_value' (told_next (run_box' (a.eval x) w)) (hn _ _ _ _ _ _ hc.2 ?_ (by have := Step.cells (lk := lk) (T := T) (U := T) hs hd; rw [Array.toArray_toList] at this; exact this))
    exact mk_ptr (get_new hs _)
  · rename_i T x y
    obtain ⟨F', H', w', h1, h2, h3⟩ := storeV_sound h (he x) (he y) hs
    exact upon_skip' (told_skip h3) (hn _ _ _ _ _ _ h1 (.inr rfl) h2)
  · rename_i t n parts
    obtain ⟨v, z, ρ', F', H', w', h1, h2, h3, h4⟩ := buildSliceV_sound (lk := lk) ok h hE hs
    exact upon_value' (told_next h4) (hn _ _ _ _ _ _ h1 h2 h3)
  · rename_i t x y
    obtain ⟨v, z, ρ', F', H', w', h1, h2, h3, h4⟩ := makeSliceV_sound (lk := lk) ok h (he x) (he y) hs
    exact upon_value' (told_next h4) (hn _ _ _ _ _ _ h1 h2 h3)
  · rename_i t r
    obtain ⟨v, z, ρ', F', H', w', h1, h2, h3, h4⟩ := makeMapV_sound (lk := lk) (r' := r.map a.eval) h (fun v hv => by
      cases r with
      | none => cases hv
      | some x => injection hv with hv; subst hv; exact ⟨_, rfl, he x⟩) (fun hr => by
      cases r with
      | none => rfl
      | some x => cases hr) hs
    exact upon_value' (told_next h4) (hn _ _ _ _ _ _ h1 h2 h3)
  · rename_i t m x v
    obtain ⟨F', H', w', h1, h2, h3⟩ := mapUpdateV_sound h (he m) (he x) (he v) hs
    exact upon_skip' (told_skip h3) (hn _ _ _ _ _ _ h1 (.inr rfl) h2)
  · rename_i t x
    obtain ⟨v, z, ρ', F', H', w', h1, h2, h3, h4⟩ := rangeV_sound h (he x) hs
    exact upon_value' (told_next h4) (hn _ _ _ _ _ _ h1 h2 h3)
  · rename_i it str
    obtain ⟨v, z, F', H', w', h1, h2, h3, h4⟩ := nextV_sound (ty := type) h (he it) hs
    exact upon_value' (told_next h4) (hn _ _ _ _ _ _ h1 h2 h3)
  · rename_i c
    obtain ⟨callee, args, argTypes⟩ := c
    split at h
    · rename_i b hb
      simp only at hb
      subst hb
      split at h
      · rename_i x y t t' hargs hts
        obtain rfl := list2 hargs
        obtain rfl := list2 hts
        have hc := cond_elim h
        obtain rfl := Nat.eq_of_beq_eq_true hc.1
        obtain ⟨v, z, ρ', F', H', w', h1, h2, h3, h4⟩ := appendV_sound ok (tyR := type) hc.2 (he x) (he y) hs
        refine upon_value' ?_ (hn _ _ _ _ _ _ h1 h2 h3)
        have := told_next h4
        simpa [execOp, resolve, invoke, builtin] using this
      · exact h.elim
    · rename_i f hf
      simp only at hf
      subst hf
      split at h
      · rename_i g caps hg
        split at h
        · rename_i s hsg
          have hc := cond_elim h
          have hfd := he f
          rw [hg] at hfd
          have hfd := hfd.den (by simp)
          simp only [V.den] at hfd
          split at hfd
          · rename_i cs hcs
            injection hfd with hfd
            have hargs := noJunk_den hE args.toList hc.1
            have hall := denL_append hargs hcs
            obtain ⟨⟨fn, f1, f2, f3⟩, _⟩ := hsig g s hsg
            have hrun : (execOp a.eval { dst := dst, op := .call { callee := .value f, args := args, argTypes := argTypes }, type := type, pos := pos, after := after, guard := guard : Oper }).run cfg.P w = .ok (.enter g (args.toList.map a.eval ++ cs).toArray) w := by
              have e : (args.toList.map a.eval ++ cs).toArray = #[] ++ args.map a.eval ++ cs.toArray := by
                apply Array.ext'; simp
              simp only [execOp, resolve, ← hfd, Deferred.ofValue, invoke, Sem.run_bind, Sem.run_pure, Result.andThen_ok, run_callFunc f1 f2 f3, e]
            rw [hrun, Oper.upon_enter]
            refine (callC_sound hlk (hsig g s hsg) hc.2 hall hs).mono ?_
            rintro e w' ⟨v, x, ρ', F', H', rfl, h1, h2, h3⟩
            exact hn _ _ _ _ _ _ h1 h2 h3
          · cases hfd
        · exact h.elim
      · rename_i g y hg
        split at h
        · rename_i s hsg
          have hc := cond_elim h
          have hfd := he f
          rw [hg] at hfd
          have hfd := hfd.den (by simp)
          simp only [V.den] at hfd
          split at hfd
          · rename_i yv hy
            injection hfd with hfd
            have hargs := noJunk_den hE args.toList hc.1
            have hall : denL ρ (y :: args.toList.map (ev env)) = some (yv :: args.toList.map a.eval) := by simp only [denL, hy, hargs]
            obtain ⟨⟨fn, f1, f2, f3⟩, _⟩ := hsig g s hsg
            have hrun : (execOp a.eval { dst := dst, op := .call { callee := .value f, args := args, argTypes := argTypes }, type := type, pos := pos, after := after, guard := guard : Oper }).run cfg.P w = .ok (.enter g (yv :: args.toList.map a.eval).toArray) w := by
              have e : (yv :: args.toList.map a.eval).toArray = #[yv] ++ args.map a.eval ++ #[] := by
                apply Array.ext'; simp
              simp only [execOp, resolve, ← hfd, Deferred.ofValue, invoke, Sem.run_bind, Sem.run_pure, Result.andThen_ok, run_callFunc f1 f2 f3, e]
            rw [hrun, Oper.upon_enter]
            refine (callC_sound hlk (hsig g s hsg) hc.2 hall hs).mono ?_
            rintro e w' ⟨v, x, ρ', F', H', rfl, h1, h2, h3⟩
            exact hn _ _ _ _ _ _ h1 h2 h3
          · cases hfd
        · exact h.elim
      · exact h.elim
    · exact h.elim

theorem REnv.put {nt : Nat} {env : Env} {a : Act} (hnt : a.tmps.size = nt) (hE : ∀ t, Rel ρ (env t) (a.tmps.getD t undef)) {ρ' : List Value} (hl : Le ρ ρ') {v : V} {x : Value} (hx : Rel ρ' v x) (d : Option Nat) :
    (∀ t, Rel ρ' (updO nt env d v t) ((a.put d x).tmps.getD t undef)) ∧ (a.put d x).tmps.size = nt := by
  cases d with
  | none => exact ⟨fun t => (hE t).le hl, hnt⟩
  | some d =>
    refine ⟨fun t => ?_, by simp [Act.put, hnt]⟩
    simp only [updO]
    cases hd : Nat.ble nt d with
    | true =>
      have := Nat.le_of_ble_eq_true hd
      have e : (a.put (some d) x).tmps = a.tmps := by simp only [Act.put]; rw [Array.setIfInBounds_eq_of_size_le (by omega)]
      rw [e]
      exact (hE t).le hl
    | false =>
      have hdl : d < a.tmps.size := by
        rw [hnt]
        rcases Nat.lt_or_ge d nt with h | h
        · exact h
        · rw [Nat.ble_eq_true_of_le h] at hd; cases hd
      simp only [cond_false, upd, Act.put]
      cases ht : Nat.beq t d with
      | true =>
        obtain rfl := Nat.eq_of_beq_eq_true ht
        simp only [cond_true]
        simpa [Array.getD, hdl] using hx
      | false =>
        have hne : d ≠ t := fun e => by subst e; simp at ht
        simp only [cond_false]
        have e : (a.tmps.setIfInBounds d x).getD t undef = a.tmps.getD t undef := by
          simp only [Array.getD_eq_getD_getElem?, Array.getElem?_setIfInBounds_ne hne]
        rw [e]
        exact (hE t).le hl


/-- A state of the run: temporaries and memory. -/
structure St (cfg : Cfg) (nt : Nat) (ρ : List Value) (F : Nat → List Nat) (env : Env) (H : Heap) (a : Act) (w : World) : Prop where
  env : ∀ t, Rel ρ (env t) (a.tmps.getD t undef)
  size : a.tmps.size = nt
  defers : a.defers = []
  sat : Sat cfg.elT ρ F H w

theorem St.put {nt : Nat} {env : Env} {a : Act} (h : St cfg nt ρ F env H a w) {ρ' : List Value} {F' : Nat → List Nat} {H' : Heap} {w' : World} (st : Step cfg lk ρ F H w ρ' F' H' w') {v : V} {x : Value} (hx : Rel ρ' v x) (d : Option Nat) :
    St cfg nt ρ' F' (updO nt env d v) H' (a.put d x) w' :=
  let p := REnv.put h.size h.env st.le hx d
  ⟨p.1, p.2, by cases d <;> exact h.defers, st.sat⟩

theorem guard_wanted {ops : Array Oper} {a : Act} {j d : Nat} {p o : Oper} {b want : Bool} (hp : ops[j]? = some p) (hd : p.dst = some d) (hv : a.tmps.getD d undef = .bool b) (hds : d < a.tmps.size) (hg : o.guard = some (j, want)) :
    Region.wanted o (yielded ops a.tmps) = (b == want) := by
  have hy : yielded ops a.tmps j = some b := by
    unfold yielded
    rw [hp]
    simp only [Option.bind_some, hd]
    rw [Array.getElem?_eq_getElem hds]
    have : a.tmps[d] = .bool b := by simpa [Array.getD, hds] using hv
    rw [this]
  unfold Region.wanted
  rw [hg]
  simp only [hy]
  cases b <;> cases want <;> rfl

/-- The guard's own operation was not asked: this one is not either. -/
theorem guard_unasked {ops : Array Oper} {a : Act} {j d : Nat} {p o : Oper} {vs : Array Value} {want : Bool} (hp : ops[j]? = some p) (hd : p.dst = some d) (hv : a.tmps.getD d undef = .tuple vs) (hg : o.guard = some (j, want)) :
    Region.wanted o (yielded ops a.tmps) = false := by
  have hy : yielded ops a.tmps j = none := by
    unfold yielded
    rw [hp]
    simp only [Option.bind_some, hd]
    rcases Nat.lt_or_ge d a.tmps.size with hds | hds
    · rw [Array.getElem?_eq_getElem hds]
      have : a.tmps[d] = .tuple vs := by simpa [Array.getD, hds] using hv
      rw [this]
    · rw [Array.getElem?_eq_none hds]
  unfold Region.wanted
  rw [hg]
  simp only [hy]
  rfl

/-- One operation, by its guard: what it must lead to. -/
def opGoes (cfg : Cfg) (nt : Nat) (lk : Option (Blk → Bool)) (ρ : List Value) (F : Nat → List Nat) (H : Heap) (w : World) (o : Oper) (a : Act) (J : Env → Heap → Prop) (next : Act → World → Prop) : Prop :=
  ∀ ρ' F' H' w' env' a', J env' H' → St cfg nt ρ' F' env' H' a' w' → Step cfg lk ρ F H w ρ' F' H' w' → (∃ x, a' = a.put o.dst x) → next a' w'

/-- The guard is known: the temporary that it looks at may be told so. -/
theorem St.known {nt : Nat} {env : Env} {a : Act} (h : St cfg nt ρ F env H a w) {d : Nat} {b : Bool} (hv : env d = .ext (.bool b)) : St cfg nt ρ F (updO nt env (some d) (vb b)) H a w := by
  refine ⟨fun t => ?_, h.size, h.defers, h.sat⟩
  simp only [updO]
  cases Nat.ble nt d with
  | true => exact h.env t
  | false =>
    simp only [cond_false, upd]
    cases ht : Nat.beq t d with
    | true =>
      obtain rfl := Nat.eq_of_beq_eq_true ht
      have := h.env t
      rw [hv] at this
      exact this
    | false => exact h.env t

theorem bool_size {nt : Nat} {env : Env} {a : Act} (h : St cfg nt ρ F env H a w) {d : Nat} {b : Bool} (hv : env d = .ext (.bool b)) : a.tmps.getD d undef = .bool b ∧ d < a.tmps.size := by
  have h1 := h.env d
  rw [hv] at h1
  have h2 := den_ext h1
  refine ⟨h2, ?_⟩
  rcases Nat.lt_or_ge d a.tmps.size with hl | hl
  · exact hl
  · simp [Array.getD, Nat.not_lt.2 hl, undef] at h2

/-- An operation in an undrawn region, or one that changes memory. -/
theorem exOp_wp (ok : CfgOK cfg) (hsig : ∀ g s, cfg.sigs g = some s → SpecOK cfg.P cfg.elT g s) (hlk : LkOK lk) {nt : Nat} {ea : Bool} {HR : Option Heap} {o : Oper} {env : Env} {a : Act} {J : Env → Heap → Prop}
    (hq : isLoud o = true ∨ HR = none) (h : exOp cfg lk ea HR o env H (fun v H => J (updO nt env o.dst v) H)) (hs : St cfg nt ρ F env H a w) {next : Act → World → Prop} {Q : Exit → Act → World → Prop}
    (hn : opGoes cfg nt lk ρ F H w o a J next) : o.wp cfg.P a w next Q := by
  unfold exOp at h
  cases hl : isLoud o with
  | true =>
    rw [hl] at h
    simp only [cond_true] at h
    exact loudOp_sound ok hsig hlk h hs.env hs.sat (fun v x ρ' F' H' w' h1 h2 h3 => hn ρ' F' H' w' _ _ h1 (hs.put h3 h2 _) h3 ⟨x, rfl⟩)
  | false =>
    rw [hl] at h hq
    obtain rfl : HR = none := by rcases hq with h | h; cases h; exact h
    simp only [cond_false] at h
    obtain ⟨v, x, h1, h2, h3⟩ := pureOp_sound (F := F) ok h hs.env (hs.sat.reads _) hs.sat.shape
    unfold Oper.wp
    have st : Step cfg lk ρ F H w ρ F H w := .refl hs.sat
    exact upon_value' (h3 w (hs.sat.reads _)) (hn ρ F H w _ _ h1 (hs.put st h2 _) st ⟨x, rfl⟩)

/-- One operation of a region, its guard and all. -/
theorem exOps_wpOp (ok : CfgOK cfg) (hsig : ∀ g s, cfg.sigs g = some s → SpecOK cfg.P cfg.elT g s) (hlk : LkOK lk) {nt : Nat} {ea : Nat → Bool} {HR : Option Heap} {ops : Array Oper} {i : Nat} {rest : List Nat} {env : Env} {a : Act}
    {J : Env → Heap → Prop} (hq : ∀ o, ops[i]? = some o → isLoud o = true ∨ HR = none) (h : exOps cfg nt lk ea HR ops.toList (i :: rest) env H J) (hs : St cfg nt ρ F env H a w) {K : Act → World → Prop} {Q : Exit → Act → World → Prop}
    (hn : ∀ ρ' F' H' w' env' a', exOps cfg nt lk ea HR ops.toList rest env' H' J → St cfg nt ρ' F' env' H' a' w' → Step cfg lk ρ F H w ρ' F' H' w' → K a' w') : wpOp cfg.P ops Q i K a w := by
  simp only [exOps] at h
  unfold wpOp
  split at h
  · exact h.elim
  · rename_i o ho
    have ho' : ops[i]? = some o := by rw [← Array.getElem?_toList]; exact ho
    simp only [ho']
    split at h
    · rename_i hg
      have hw : Region.wanted o (yielded ops a.tmps) = true := by unfold Region.wanted; rw [hg]
      simp only [hw, if_true]
      exact .inl (exOp_wp (J := fun env H => exOps cfg nt lk ea HR ops.toList rest env H J) ok hsig hlk (hq o ho') h hs (fun ρ' F' H' w' env' a' h1 h2 h3 _ => hn ρ' F' H' w' env' a' h1 h2 h3))
    · rename_i j want hg
      split at h
      · exact h.elim
      · rename_i p hp
        have hp' : ops[j]? = some p := by rw [← Array.getElem?_toList]; exact hp
        split at h
        · exact h.elim
        · rename_i d hd
          split at h
          · rename_i b hb
            obtain ⟨hv, hds⟩ := bool_size hs hb
            have hw := guard_wanted hp' hd hv hds hg
            have hs' := hs.known hb
            have fin : ∀ wn : Bool, Region.wanted o (yielded ops a.tmps) = wn →
                (bif wn then exOp cfg lk (ea i) HR o (updO nt env (some d) (vb b)) H (fun v H => exOps cfg nt lk ea HR ops.toList rest (updO nt (updO nt env (some d) (vb b)) o.dst v) H J)
                  else exOps cfg nt lk ea HR ops.toList rest (updO nt (updO nt env (some d) (vb b)) o.dst (.ext undef)) H J) →
                if Region.wanted o (yielded ops a.tmps) = true then o.wp cfg.P a w K Q ∨ (o.asks cfg.P a w ∧ LetsOut Q) else K (a.put o.dst undef) w := by
              intro wn hwn hh
              rw [hwn]
              cases wn with
              | true =>
                simp only [if_true]
                exact .inl (exOp_wp (J := fun env H => exOps cfg nt lk ea HR ops.toList rest env H J) ok hsig hlk (hq o ho') hh hs' (fun ρ' F' H' w' env' a' h1 h2 h3 _ => hn ρ' F' H' w' env' a' h1 h2 h3))
              | false =>
                simp only [Bool.false_eq_true, if_false]
                have st : Step cfg lk ρ F H w ρ F H w := .refl hs.sat
                exact hn ρ F H w _ _ hh (hs'.put st (.inr rfl) _) st
            rcases br_elim h with ⟨rfl, h⟩ | ⟨rfl, h⟩
            · refine fin want (by rw [hw]; cases want <;> rfl) h
            · refine fin (!want) (by rw [hw]; cases want <;> rfl) h
          · rename_i vs hb
            cases e : vs.toList.isEmpty with
            | false => rw [e] at h; exact h.elim
            | true =>
              rw [e] at h
              simp only [cond_true] at h
              have h1 := hs.env d
              rw [hb] at h1
              rw [guard_unasked hp' hd (den_ext h1) hg]
              simp only [Bool.false_eq_true, if_false]
              have st : Step cfg lk ρ F H w ρ F H w := .refl hs.sat
              exact hn ρ F H w _ _ h (hs.put st (.inr rfl) _) st
          · exact h.elim

/-- A region in the order of its text. -/
theorem exOps_wpOps (ok : CfgOK cfg) (hsig : ∀ g s, cfg.sigs g = some s → SpecOK cfg.P cfg.elT g s) {nt : Nat} {ea : Nat → Bool} {ops : Array Oper} {Q : Exit → Act → World → Prop} {J : Env → Heap → Prop} :
    ∀ (l : List Nat) (ρ : List Value) (F : Nat → List Nat) (H : Heap) (w : World) (env : Env) (a : Act), exOps cfg nt none ea none ops.toList l env H J → St cfg nt ρ F env H a w →
    (∀ ρ' F' H' w' env' a', J env' H' → St cfg nt ρ' F' env' H' a' w' → Step cfg none ρ F H w ρ' F' H' w' → Q .normal a' w') → wpOps cfg.P ops Q l a w
  | [], ρ, F, H, w, env, a, h, hs, hn => hn ρ F H w env a h hs (.refl hs.sat)
  | i :: rest, ρ, F, H, w, env, a, h, hs, hn => by
    rw [wpOps_cons]
    exact exOps_wpOp ok hsig (fun f hf => by cases hf) (fun o _ => .inr rfl) h hs (fun ρ' F' H' w' env' a' h1 h2 h3 =>
      exOps_wpOps ok hsig rest ρ' F' H' w' env' a' h1 h2 (fun ρ2 F2 H2 w2 env2 a2 g1 g2 g3 => hn ρ2 F2 H2 w2 env2 a2 g1 g2 (h3.trans g3)))

end Go.Rx
