/- What the row's text of this claim stands on, part 2: the symbolic executor, contracts of the program's functions, plain facts. No condition. -/
import Derived.LoopN
import Derived.Scope
import Derived.KernelRfl
import Derived.Recover
import Derived.Test.YtoejhbeppjagnaaGreatProg
import Derived.Shelf.Abstract
import Derived.Shelf.RegionOpen
import Derived.WalkKit
import Derived.OwnWalkIn
import Derived.TacticsInMore
import Derived.LoopNIn
import Derived.LoopIn
import Derived.Test.YtoejhbeppjagnaaGreatK11bA
section
namespace Go.Rx
variable {cfg : Cfg} {lk : Option (Blk → Bool)} {H : Heap} {ρ : List Value} {F : Nat → List Nat} {w : World} {k : V → Heap → Prop} {ds : List Deferred}
theorem upon_value' {P : Program} {o : Oper} {a : Act} {next : Act → World → Prop} {Q : Exit → Act → World → Prop} {s : Sem Next} {x : Value} {w w' : World} (h : s.run P w = .ok (.value x) w') (hn : next (a.put o.dst x) w') :
    o.upon P a next Q (s.run P w) := by rw [h]; exact hn
theorem upon_skip' {P : Program} {o : Oper} {a : Act} {next : Act → World → Prop} {Q : Exit → Act → World → Prop} {s : Sem Next} {w w' : World} (h : s.run P w = .ok .skip w') (hn : next (a.put o.dst undef) w') :
    o.upon P a next Q (s.run P w) := by rw [h]; exact hn
theorem run_alloc' {P : Program} {T : TypeId} {inf : TypeInfo} {z : Value} (h1 : P.info? T = some inf) (h2 : inf.zero = some z) (w : World) :
    (Instr.alloc T true (.tuple #[])).run P w = .ok (.pointer (some ⟨w.heap.size, 0, none⟩)) (w.alloc (.cells z.cells T)) := by
  simp only [Instr.alloc, Sem.run_bind, zeroValue, typeInfo, newVar, newRow, run_newObj', Result.andThen_ok, Sem.run_pure, program, Sem.run, h1, h2, pure]
theorem run_box' {P : Program} {T : TypeId} (v : Value) (w : World) :
    (Instr.box T v).run P w = .ok (.pointer (some ⟨w.heap.size, 0, none⟩)) (w.alloc (.cells v.cells T)) := by
  simp only [Instr.box, Sem.run_bind, newVar, newRow, run_newObj', Result.andThen_ok, Sem.run_pure]
theorem told_next {P : Program} {m : Sem Value} {x : Value} {w w' : World} (h : m.run P w = .ok x w') : ((do pure (.value (← m))) : Sem Next).run P w = .ok (.value x) w' := by
  rw [Sem.run_bind, h]; rfl
theorem told_skip {P : Program} {m : Sem Unit} {w w' : World} (h : m.run P w = .ok () w') : ((do m; pure .skip) : Sem Next).run P w = .ok .skip w' := by
  rw [Sem.run_bind, h]; rfl
theorem run_callFunc {P : Program} {g : FuncId} {fn : Func} (h1 : P.funcs[g]? = some fn) (h2 : (fn.name == "runtime.NumGoroutine") = false) (h3 : fn.body.isNone = false) (args : Array Value) (w : World) :
    (callFunc g args).run P w = .ok (.enter g args) w := by
  have h2' : ¬ fn.name = "runtime.NumGoroutine" := by simpa using h2
  have h3' : ¬ fn.body = none := fun e => by rw [e] at h3; cases h3
  simp [callFunc, h1, h2', h3']
theorem Kept.refl {lk : Option (Blk → Bool)} {H : Heap} {F : Nat → List Nat} {w : World} : Kept lk H F w H F w := fun _ _ _ _ hb _ => ⟨hb, rfl, fun _ _ => rfl⟩
theorem Kept.weak {lk : Option (Blk → Bool)} {H H' : Heap} {F F' : Nat → List Nat} {w w' : World} (h : Kept (some fun _ => true) H F w H' F' w') : Kept lk H F w H' F' w' :=
  fun _ _ i b hb _ => h _ rfl i b hb rfl
theorem lkOK_all : LkOK (some fun _ => true) := by
  intro f hf g b c h
  injection hf with hf
  subst hf
  rfl
theorem lkOK_q {q : QM} {i : Nat} {lk : Option (Blk → Bool)} (h : LkOK lk) : LkOK (lkq q i lk) := by
  unfold lkq
  cases Nat.beq q.late (i + 1) with
  | true => intro f hf; cases hf
  | false => exact h
theorem loudOp_sound (ok : CfgOK cfg) (hsig : ∀ g s, cfg.sigs g = some s → SpecOK cfg.P cfg.elT g s) (hlk : LkOK lk) {o : Oper} {env : Env} {a : Act} (h : loudOp cfg lk o env H k) (hE : ∀ t, Rel ρ (env t) (a.tmps.getD t undef))
    (hs : Sat cfg.elT ρ F H w) {next : Act → World → Prop} {Q : Exit → Act → World → Prop}
    (hn : ∀ v x ρ' F' H' w', k v H' → Rel ρ' v x → Step cfg lk ρ F H w ρ' F' H' w' → next (a.put o.dst x) w') : o.wp cfg.P a w next Q := by
  obtain ⟨dst, op, type, pos, after, guard⟩ := o
  have he := fun x => REnv.ev hE x
  unfold Oper.wp
  unfold loudOp at h
  split at h <;> first | exact h.elim | (rename_i hop; simp only at hop; subst hop)
  · rename_i T
    split at h
    · rename_i i hi
      obtain ⟨inf, z, i1, i2, i3, i4, i5⟩ := Cfg.ty_spec hi
      refine upon_value' (told_next (run_alloc' i1 i3 w)) (hn _ _ _ _ _ _ h ?_ (by have := Step.cells (lk := lk) (T := T) (U := allocTy cfg dst T) hs (denL_ext (ρ := ρ) i.zero); rw [i5, Array.toArray_toList] at this; rw [i5]; exact this))
      exact mk_ptr (get_new hs _)
    · exact h.elim
  · rename_i T x
    have hc := cond_elim h
    have hd := vcells_den (he x) hc.1
    refine upon_value' (told_next (run_box' (a.eval x) w)) (hn _ _ _ _ _ _ hc.2 ?_ (by have := Step.cells (lk := lk) (T := T) (U := T) hs hd; rw [Array.toArray_toList] at this; exact this))
    exact mk_ptr (get_new hs _)
  · rename_i T x y
    obtain ⟨F', H', w', h1, h2, h3⟩ := storeV_sound h (he x) (he y) hs
    exact upon_skip' (told_skip h3) (hn _ _ _ _ _ _ h1 (.inr rfl) h2)
  · rename_i t n parts
    obtain ⟨v, z, ρ', F', H', w', h1, h2, h3, h4⟩ := buildSliceV_sound (lk := lk) ok h hE hs
    exact upon_value' (told_next h4) (hn _ _ _ _ _ _ h1 h2 h3)
  · rename_i t x y
    obtain ⟨v, z, ρ', F', H', w', h1, h2, h3, h4⟩ := makeSliceV_sound (lk := lk) ok h (he x) (he y) hs
    exact upon_value' (told_next h4) (hn _ _ _ _ _ _ h1 h2 h3)
  · rename_i t r
    obtain ⟨v, z, ρ', F', H', w', h1, h2, h3, h4⟩ := makeMapV_sound (lk := lk) (r' := r.map a.eval) h (fun v hv => by
      cases r with
      | none => cases hv
      | some x => injection hv with hv; subst hv; exact ⟨_, rfl, he x⟩) (fun hr => by
      cases r with
      | none => rfl
      | some x => cases hr) hs
    exact upon_value' (told_next h4) (hn _ _ _ _ _ _ h1 h2 h3)
  · rename_i t m x v
    obtain ⟨F', H', w', h1, h2, h3⟩ := mapUpdateV_sound h (he m) (he x) (he v) hs
    exact upon_skip' (told_skip h3) (hn _ _ _ _ _ _ h1 (.inr rfl) h2)
  · rename_i t x
    obtain ⟨v, z, ρ', F', H', w', h1, h2, h3, h4⟩ := rangeV_sound h (he x) hs
    exact upon_value' (told_next h4) (hn _ _ _ _ _ _ h1 h2 h3)
  · rename_i it str
    obtain ⟨v, z, F', H', w', h1, h2, h3, h4⟩ := nextV_sound (ty := type) h (he it) hs
    exact upon_value' (told_next h4) (hn _ _ _ _ _ _ h1 h2 h3)
  · rename_i c
    obtain ⟨callee, args, argTypes⟩ := c
    split at h
    · rename_i b hb
      simp only at hb
      subst hb
      split at h
      · rename_i x y t t' hargs hts
        obtain rfl := list2 hargs
        obtain rfl := list2 hts
        have hc := cond_elim h
        obtain rfl := Nat.eq_of_beq_eq_true hc.1
        obtain ⟨v, z, ρ', F', H', w', h1, h2, h3, h4⟩ := appendV_sound ok (tyR := type) hc.2 (he x) (he y) hs
        refine upon_value' ?_ (hn _ _ _ _ _ _ h1 h2 h3)
        have := told_next h4
        simpa [execOp, resolve, invoke, builtin] using this
      · rename_i x y t t' hargs hts
        obtain rfl := list2 hargs
        obtain rfl := list2 hts
        have hc := cond_elim h
        obtain rfl := Nat.eq_of_beq_eq_true hc.1
        obtain ⟨v, z, ρ', F', H', w', h1, h2, h3, h4⟩ := copyV_sound ok (tyR := type) hc.2 (he x) (he y) hs
        refine upon_value' ?_ (hn _ _ _ _ _ _ h1 h2 h3)
        have := told_next h4
        simpa [execOp, resolve, invoke, builtin] using this
      · exact h.elim
    · rename_i f hf
      simp only at hf
      subst hf
      split at h
      · rename_i g caps hg
        split at h
        · rename_i s hsg
          have hc := cond_elim h
          have hfd := he f
          rw [hg] at hfd
          have hfd := hfd.den (by simp)
          simp only [V.den] at hfd
          split at hfd
          · rename_i cs hcs
            injection hfd with hfd
            have hargs := noJunk_den hE args.toList hc.1
            have hall := denL_append hargs hcs
            obtain ⟨⟨fn, f1, f2, f3⟩, _⟩ := hsig g s hsg
            have hrun : (execOp a.eval { dst := dst, op := .call { callee := .value f, args := args, argTypes := argTypes }, type := type, pos := pos, after := after, guard := guard : Oper }).run cfg.P w = .ok (.enter g (args.toList.map a.eval ++ cs).toArray) w := by
              have e : (args.toList.map a.eval ++ cs).toArray = #[] ++ args.map a.eval ++ cs.toArray := by
                apply Array.ext'; simp
              simp only [execOp, resolve, ← hfd, Deferred.ofValue, invoke, Sem.run_bind, Sem.run_pure, Result.andThen_ok, run_callFunc f1 f2 f3, e]
            rw [hrun, Oper.upon_enter]
            refine (callC_sound hlk (hsig g s hsg) hc.2 hall hs).mono ?_
            rintro e w' ⟨v, x, ρ', F', H', rfl, h1, h2, h3⟩
            exact hn _ _ _ _ _ _ h1 h2 h3
          · cases hfd
        · exact h.elim
      · rename_i g y hg
        split at h
        · rename_i s hsg
          have hc := cond_elim h
          have hfd := he f
          rw [hg] at hfd
          have hfd := hfd.den (by simp)
          simp only [V.den] at hfd
          split at hfd
          · rename_i yv hy
            injection hfd with hfd
            have hargs := noJunk_den hE args.toList hc.1
            have hall : denL ρ (y :: args.toList.map (ev env)) = some (yv :: args.toList.map a.eval) := by simp only [denL, hy, hargs]
            obtain ⟨⟨fn, f1, f2, f3⟩, _⟩ := hsig g s hsg
            have hrun : (execOp a.eval { dst := dst, op := .call { callee := .value f, args := args, argTypes := argTypes }, type := type, pos := pos, after := after, guard := guard : Oper }).run cfg.P w = .ok (.enter g (yv :: args.toList.map a.eval).toArray) w := by
              have e : (yv :: args.toList.map a.eval).toArray = #[yv] ++ args.map a.eval ++ #[] := by
                apply Array.ext'; simp
              simp only [execOp, resolve, ← hfd, Deferred.ofValue, invoke, Sem.run_bind, Sem.run_pure, Result.andThen_ok, run_callFunc f1 f2 f3, e]
            rw [hrun, Oper.upon_enter]
            refine (callC_sound hlk (hsig g s hsg) hc.2 hall hs).mono ?_
            rintro e w' ⟨v, x, ρ', F', H', rfl, h1, h2, h3⟩
            exact hn _ _ _ _ _ _ h1 h2 h3
          · cases hfd
        · exact h.elim
      · exact h.elim
    · exact h.elim
theorem REnv.put {nt : Nat} {env : Env} {a : Act} (hnt : a.tmps.size = nt) (hE : ∀ t, Rel ρ (env t) (a.tmps.getD t undef)) {ρ' : List Value} (hl : Le ρ ρ') {v : V} {x : Value} (hx : Rel ρ' v x) (d : Option Nat) :
    (∀ t, Rel ρ' (updO nt env d v t) ((a.put d x).tmps.getD t undef)) ∧ (a.put d x).tmps.size = nt := by
  cases d with
  | none => exact ⟨fun t => (hE t).le hl, hnt⟩
  | some d =>
    refine ⟨fun t => ?_, by simp [Act.put, hnt]⟩
    simp only [updO]
    cases hd : Nat.ble nt d with
    | true =>
      have := Nat.le_of_ble_eq_true hd
      have e : (a.put (some d) x).tmps = a.tmps := by simp only [Act.put]; rw [Array.setIfInBounds_eq_of_size_le (by omega)]
      rw [e]
      exact (hE t).le hl
    | false =>
      have hdl : d < a.tmps.size := by
        rw [hnt]
        rcases Nat.lt_or_ge d nt with h | h
        · exact h
        · rw [Nat.ble_eq_true_of_le h] at hd; cases hd
      simp only [cond_false, upd, Act.put]
      cases ht : Nat.beq t d with
      | true =>
        obtain rfl := Nat.eq_of_beq_eq_true ht
        simp only [cond_true]
        simpa [Array.getD, hdl] using hx
      | false =>
        have hne : d ≠ t := fun e => by subst e; simp at ht
        simp only [cond_false]
        have e : (a.tmps.setIfInBounds d x).getD t undef = a.tmps.getD t undef := by
          simp only [Array.getD_eq_getD_getElem?, Array.getElem?_setIfInBounds_ne hne]
        rw [e]
        exact (hE t).le hl
structure St (cfg : Cfg) (nt : Nat) (ds : List Deferred) (ρ : List Value) (F : Nat → List Nat) (env : Env) (H : Heap) (a : Act) (w : World) : Prop where
  env : ∀ t, Rel ρ (env t) (a.tmps.getD t undef)
  size : a.tmps.size = nt
  defers : a.defers = ds
  sat : Sat cfg.elT ρ F H w
theorem St.put {nt : Nat} {env : Env} {a : Act} (h : St cfg nt ds ρ F env H a w) {ρ' : List Value} {F' : Nat → List Nat} {H' : Heap} {w' : World} (st : Step cfg lk ρ F H w ρ' F' H' w') {v : V} {x : Value} (hx : Rel ρ' v x) (d : Option Nat) :
    St cfg nt ds ρ' F' (updO nt env d v) H' (a.put d x) w' :=
  let p := REnv.put h.size h.env st.le hx d
  ⟨p.1, p.2, by cases d <;> exact h.defers, st.sat⟩
theorem guard_wanted {ops : Array Oper} {a : Act} {j d : Nat} {p o : Oper} {b want : Bool} (hp : ops[j]? = some p) (hd : p.dst = some d) (hv : a.tmps.getD d undef = .bool b) (hds : d < a.tmps.size) (hg : o.guard = some (j, want)) :
    Region.wanted o (yielded ops a.tmps) = (b == want) := by
  have hy : yielded ops a.tmps j = some b := by
    unfold yielded
    rw [hp]
    simp only [Option.bind_some, hd]
    rw [Array.getElem?_eq_getElem hds]
    have : a.tmps[d] = .bool b := by simpa [Array.getD, hds] using hv
    rw [this]
  unfold Region.wanted
  rw [hg]
  simp only [hy]
  cases b <;> cases want <;> rfl
theorem guard_unasked {ops : Array Oper} {a : Act} {j d : Nat} {p o : Oper} {vs : Array Value} {want : Bool} (hp : ops[j]? = some p) (hd : p.dst = some d) (hv : a.tmps.getD d undef = .tuple vs) (hg : o.guard = some (j, want)) :
    Region.wanted o (yielded ops a.tmps) = false := by
  have hy : yielded ops a.tmps j = none := by
    unfold yielded
    rw [hp]
    simp only [Option.bind_some, hd]
    rcases Nat.lt_or_ge d a.tmps.size with hds | hds
    · rw [Array.getElem?_eq_getElem hds]
      have : a.tmps[d] = .tuple vs := by simpa [Array.getD, hds] using hv
      rw [this]
    · rw [Array.getElem?_eq_none hds]
  unfold Region.wanted
  rw [hg]
  simp only [hy]
  rfl
def opGoes (cfg : Cfg) (nt : Nat) (ds : List Deferred) (lk : Option (Blk → Bool)) (q : QM) (ρ : List Value) (F : Nat → List Nat) (H : Heap) (w : World) (o : Oper) (a : Act) (J : Env → Heap → Prop) (next : Act → World → Prop) : Prop :=
  ∀ ρ' F' H' w' env' a', J env' H' → St cfg nt ds ρ' F' env' H' a' w' → Step cfg lk ρ F H w ρ' F' H' w' → (isLoud o = true → isQuiet q o = true → Kept (some fun _ => true) H F w H' F' w') → next a' w'
theorem St.known {nt : Nat} {env : Env} {a : Act} (h : St cfg nt ds ρ F env H a w) {d : Nat} {b : Bool} (hv : env d = .ext (.bool b)) : St cfg nt ds ρ F (updO nt env (some d) (vb b)) H a w := by
  refine ⟨fun t => ?_, h.size, h.defers, h.sat⟩
  simp only [updO]
  cases Nat.ble nt d with
  | true => exact h.env t
  | false =>
    simp only [cond_false, upd]
    cases ht : Nat.beq t d with
    | true =>
      obtain rfl := Nat.eq_of_beq_eq_true ht
      have := h.env t
      rw [hv] at this
      exact this
    | false => exact h.env t
theorem bool_size {nt : Nat} {env : Env} {a : Act} (h : St cfg nt ds ρ F env H a w) {d : Nat} {b : Bool} (hv : env d = .ext (.bool b)) : a.tmps.getD d undef = .bool b ∧ d < a.tmps.size := by
  have h1 := h.env d
  rw [hv] at h1
  have h2 := den_ext h1
  refine ⟨h2, ?_⟩
  rcases Nat.lt_or_ge d a.tmps.size with hl | hl
  · exact hl
  · simp [Array.getD, Nat.not_lt.2 hl, undef] at h2
theorem exOp_wp (ok : CfgOK cfg) (hsig : ∀ g s, cfg.sigs g = some s → SpecOK cfg.P cfg.elT g s) (hlk : LkOK lk) {nt : Nat} {q : QM} {ea : Bool} {HR : Option Heap} {o : Oper} {env : Env} {a : Act} {J : Env → Heap → Prop}
    (hq : isLoud o = true ∨ HR = none) (h : exOp cfg lk q ea HR o env H (fun v H => J (updO nt env o.dst v) H)) (hs : St cfg nt ds ρ F env H a w) {next : Act → World → Prop} {Q : Exit → Act → World → Prop}
    (hn : opGoes cfg nt ds lk q ρ F H w o a J next) : o.wp cfg.P a w next Q := by
  unfold exOp at h
  cases hl : isLoud o with
  | true =>
    rw [hl] at h
    simp only [cond_true] at h
    cases hqo : isQuiet q o with
    | false =>
      rw [hqo] at h
      exact loudOp_sound ok hsig hlk h hs.env hs.sat (fun v x ρ' F' H' w' h1 h2 h3 => hn ρ' F' H' w' _ _ h1 (hs.put h3 h2 _) h3 (fun _ hc => by rw [hqo] at hc; cases hc))
    | true =>
      rw [hqo] at h
      exact loudOp_sound ok hsig lkOK_all h hs.env hs.sat (fun v x ρ' F' H' w' h1 h2 h3 => hn ρ' F' H' w' _ _ h1 (hs.put h3 h2 _) ⟨h3.le, h3.sat, h3.fr, h3.kept.weak⟩ (fun _ _ => h3.kept))
  | false =>
    rw [hl] at h hq
    obtain rfl : HR = none := by rcases hq with h | h; cases h; exact h
    simp only [cond_false] at h
    obtain ⟨v, x, h1, h2, h3⟩ := pureOp_sound (F := F) ok h hs.env (hs.sat.reads _) hs.sat.shape
    unfold Oper.wp
    have st : Step cfg lk ρ F H w ρ F H w := .refl hs.sat
    exact upon_value' (h3 w (hs.sat.reads _)) (hn ρ F H w _ _ h1 (hs.put st h2 _) st (fun hc => by rw [hl] at hc; cases hc))
theorem exOps_wpOp (ok : CfgOK cfg) (hsig : ∀ g s, cfg.sigs g = some s → SpecOK cfg.P cfg.elT g s) (hlk : LkOK lk) {nt : Nat} {q : QM} {ea : Nat → Bool} {HR : Option Heap} {ops : Array Oper} {i : Nat} {rest : List Nat} {env : Env} {a : Act}
    {J : Env → Heap → Prop} (hq : ∀ o, ops[i]? = some o → isLoud o = true ∨ HR = none) (h : exOps cfg nt lk q ea HR ops.toList (i :: rest) env H J) (hs : St cfg nt ds ρ F env H a w) {K : Act → World → Prop} {Q : Exit → Act → World → Prop}
    (hn : ∀ ρ' F' H' w' env' a', exOps cfg nt lk q ea HR ops.toList rest env' H' J → St cfg nt ds ρ' F' env' H' a' w' → Step cfg (lkq q i lk) ρ F H w ρ' F' H' w' → (∀ o, ops[i]? = some o → isLoud o = true → isQuiet q o = true → Kept (some fun _ => true) H F w H' F' w') → K a' w') : wpOp cfg.P ops Q i K a w := by
  simp only [exOps] at h
  unfold wpOp
  split at h
  · exact h.elim
  · rename_i o ho
    have ho' : ops[i]? = some o := by rw [← Array.getElem?_toList]; exact ho
    simp only [ho']
    split at h
    · rename_i hg
      have hw : Region.wanted o (yielded ops a.tmps) = true := by unfold Region.wanted; rw [hg]
      simp only [hw, if_true]
      exact .inl (exOp_wp (J := fun env H => exOps cfg nt lk q ea HR ops.toList rest env H J) ok hsig (lkOK_q hlk) (hq o ho') h hs (fun ρ' F' H' w' env' a' h1 h2 h3 h4 => hn ρ' F' H' w' env' a' h1 h2 h3 (fun o2 ho2 => by rw [ho'] at ho2; injection ho2 with ho2; subst ho2; exact h4)))
    · rename_i j want hg
      split at h
      · exact h.elim
      · rename_i p hp
        have hp' : ops[j]? = some p := by rw [← Array.getElem?_toList]; exact hp
        split at h
        · exact h.elim
        · rename_i d hd
          split at h
          · rename_i b hb
            obtain ⟨hv, hds⟩ := bool_size hs hb
            have hw := guard_wanted hp' hd hv hds hg
            have hs' := hs.known hb
            have fin : ∀ wn : Bool, Region.wanted o (yielded ops a.tmps) = wn →
                (bif wn then exOp cfg (lkq q i lk) q (ea i) HR o (updO nt env (some d) (vb b)) H (fun v H => exOps cfg nt lk q ea HR ops.toList rest (updO nt (updO nt env (some d) (vb b)) o.dst v) H J)
                  else exOps cfg nt lk q ea HR ops.toList rest (updO nt (updO nt env (some d) (vb b)) o.dst (.ext undef)) H J) →
                if Region.wanted o (yielded ops a.tmps) = true then o.wp cfg.P a w K Q ∨ (o.asks cfg.P a w ∧ LetsOut Q) else K (a.put o.dst undef) w := by
              intro wn hwn hh
              rw [hwn]
              cases wn with
              | true =>
                simp only [if_true]
                exact .inl (exOp_wp (J := fun env H => exOps cfg nt lk q ea HR ops.toList rest env H J) ok hsig (lkOK_q hlk) (hq o ho') hh hs' (fun ρ' F' H' w' env' a' h1 h2 h3 h4 => hn ρ' F' H' w' env' a' h1 h2 h3 (fun o2 ho2 => by rw [ho'] at ho2; injection ho2 with ho2; subst ho2; exact h4)))
              | false =>
                simp only [Bool.false_eq_true, if_false]
                have st : Step cfg (lkq q i lk) ρ F H w ρ F H w := .refl hs.sat
                exact hn ρ F H w _ _ hh (hs'.put st (.inr rfl) _) st (fun _ _ _ _ => Kept.refl)
            rcases br_elim h with ⟨rfl, h⟩ | ⟨rfl, h⟩
            · refine fin want (by rw [hw]; cases want <;> rfl) h
            · refine fin (!want) (by rw [hw]; cases want <;> rfl) h
          · rename_i vs hb
            cases e : vs.toList.isEmpty with
            | false => rw [e] at h; exact h.elim
            | true =>
              rw [e] at h
              simp only [cond_true] at h
              have h1 := hs.env d
              rw [hb] at h1
              rw [guard_unasked hp' hd (den_ext h1) hg]
              simp only [Bool.false_eq_true, if_false]
              have st : Step cfg (lkq q i lk) ρ F H w ρ F H w := .refl hs.sat
              exact hn ρ F H w _ _ h (hs.put st (.inr rfl) _) st (fun _ _ _ _ => Kept.refl)
          · exact h.elim
theorem exOps_wpOps (ok : CfgOK cfg) (hsig : ∀ g s, cfg.sigs g = some s → SpecOK cfg.P cfg.elT g s) {nt : Nat} {ea : Nat → Bool} {ops : Array Oper} {Q : Exit → Act → World → Prop} {J : Env → Heap → Prop} :
    ∀ (l : List Nat) (ρ : List Value) (F : Nat → List Nat) (H : Heap) (w : World) (env : Env) (a : Act), exOps cfg nt none qm0 ea none ops.toList l env H J → St cfg nt ds ρ F env H a w →
    (∀ ρ' F' H' w' env' a', J env' H' → St cfg nt ds ρ' F' env' H' a' w' → Step cfg none ρ F H w ρ' F' H' w' → Q .normal a' w') → wpOps cfg.P ops Q l a w
  | [], ρ, F, H, w, env, a, h, hs, hn => hn ρ F H w env a h hs (.refl hs.sat)
  | i :: rest, ρ, F, H, w, env, a, h, hs, hn => by
    rw [wpOps_cons]
    exact exOps_wpOp ok hsig (fun f hf => by cases hf) (fun o _ => .inr rfl) h hs (fun ρ' F' H' w' env' a' h1 h2 h3 _ =>
      exOps_wpOps ok hsig rest ρ' F' H' w' env' a' h1 h2 (fun ρ2 F2 H2 w2 env2 a2 g1 g2 g3 => hn ρ2 F2 H2 w2 env2 a2 g1 g2 (h3.trans g3)))
end Go.Rx
end

section
namespace Go.Rx
section
variable {P : Program} {ops : Array Oper} {Q : Exit → Act → World → Prop} {S : Array Bool → World → Prop}
def wpAnyG (P : Program) (ops : Array Oper) (Q : Exit → Act → World → Prop) (S : Array Bool → World → Prop) : Nat → Array Bool → Act → World → Prop
  | 0, listed, a, w => Region.ready .any ops listed = [] ∧ Q .normal a w
  | fuel + 1, listed, a, w =>
    (Region.ready .any ops listed = [] → Q .normal a w) ∧
    ∀ i ∈ Region.ready .any ops listed, wpOp P ops Q i (fun a' w' => S (listed.setIfInBounds i true) w' ∧ wpAnyG P ops Q S fuel (listed.setIfInBounds i true) a' w') a w
theorem wpAny_of_G : ∀ (fuel : Nat) (listed : Array Bool) (a : Act) (w : World), wpAnyG P ops Q S fuel listed a w → wpAny P .any ops Q fuel listed a w
  | 0, _, _, _, h => h
  | fuel + 1, _, _, _, h => ⟨h.1, fun i hi => wpOp_mono (fun a' w' h' => wpAny_of_G fuel _ a' w' h'.2) (h.2 i hi)⟩
theorem wpOp_putG {j : Nat} {oi oj : Oper} {v : Value} {Y : Act → Prop} (hj : ops[j]? = some oj) (hap : oi.apart ops oj = true)
    (hsj : ∀ cs b, oj.op ≠ .select cs b) (keep : ∀ a u, Y a → Y (a.put oj.dst u)) (keepD : ∀ (a : Act) d, Y a → Y { a with defers := d :: a.defers })
    (hQ : ∀ c a w, Q (.panic c) (a.put oi.dst v) w → Q (.panic c) a w) {K : Act → World → Prop} {a : Act} {w : World}
    (hy : Y a) (h : wpOp P ops Q j K (a.put oi.dst v) w) :
    wpOp P ops Q j (fun a' w' => Y a' ∧ K (a'.put oi.dst v) w') a w := by
  obtain ⟨h1, h2, h3⟩ := Oper.apart_spec hap
  unfold wpOp at *
  simp only [hj] at *
  rw [wanted_put oj a oi.dst v h1] at h
  split
  · rename_i hw
    simp only [hw, if_true] at h
    rcases h with h | ⟨hasks, hlets⟩
    case inr => exact .inr ⟨by unfold Oper.asks at *; rw [execOp_put oj hsj a oi.dst v h1] at hasks; exact hasks, hlets⟩
    refine .inl ?_
    unfold Oper.wp at *
    rw [execOp_put oj hsj a oi.dst v h1] at h
    generalize (execOp a.eval oj).run P w = r at *
    cases r with
    | ok n w' =>
      cases n <;> simp only [Oper.upon] at h ⊢
      case value u => exact ⟨keep a u hy, by rw [← Act.put_comm a v u h2]; exact h⟩
      case skip => exact ⟨keep a _ hy, by rw [← Act.put_comm a v undef h2]; exact h⟩
      case defer d =>
        refine ⟨keep _ _ (keepD a d hy), ?_⟩
        rw [← Act.put_comm _ v undef h2, ← Act.put_defers]
        exact h
      case enter f args =>
        refine Calls.mono h fun e w'' he => ?_
        cases e with
        | returned u => exact ⟨keep a u hy, by rw [← Act.put_comm a v u h2]; exact he⟩
        | panicked c => exact hQ _ _ _ he
        | outgrown => exact he
      case row row args => exact Rows.mono h fun u w'' he => ⟨keep a u hy, by rw [← Act.put_comm a v u h2]; exact he⟩
    | halt x w' =>
      cases x <;> simp only [Oper.upon] at h ⊢
      case panic u => exact hQ _ _ _ h
  · rename_i hw
    simp only [hw] at h
    exact ⟨keep a _ hy, by rw [← Act.put_comm a v undef h2]; exact h⟩
def Closed (ops : Array Oper) (listed : Array Bool) : Prop :=
  ∀ (j : Nat) (o : Oper), ops[j]? = some o → listed.getD j false = true → ∀ e ∈ o.after, Region.binds .any e = true → listed.getD e.on false = true
theorem Closed.next {listed : Array Bool} (h : Closed ops listed) {i : Nat} (hr : i ∈ Region.ready .any ops listed) : Closed ops (listed.setIfInBounds i true) := by
  intro j o ho hl e he hb
  obtain ⟨hun, oi, hoi, hall⟩ := mem_ready.1 hr
  by_cases hij : i = j
  · subst hij
    rw [hoi] at ho; injection ho with ho; subst ho
    exact getD_set_true (hall e he hb)
  · rw [getD_set_ne false hij] at hl
    exact getD_set_true (h j o ho hl e he hb)
def YieldsG (P : Program) (ops : Array Oper) (S : Array Bool → World → Prop) (i : Nat) (oi : Oper) (v : Value) (a : Act) : Prop :=
  (Region.wanted oi (yielded ops a.tmps) = true ∧ ∀ listed w, Closed ops listed → listed.getD i true = false → S listed w → (execOp a.eval oi).run P w = .ok (.value v) w) ∨
  (Region.wanted oi (yielded ops a.tmps) = false ∧ v = undef)
theorem YieldsG.of_same {i : Nat} {o : Oper} {v : Value} {a a' : Act} (hy : YieldsG P ops S i o v a) (he : execOp a'.eval o = execOp a.eval o)
    (hw : Region.wanted o (yielded ops a'.tmps) = Region.wanted o (yielded ops a.tmps)) : YieldsG P ops S i o v a' := by
  unfold YieldsG at *
  rw [he, hw]
  exact hy
theorem YieldsG.wpOp {i : Nat} {o : Oper} {v : Value} {a : Act} (hi : ops[i]? = some o) (hy : YieldsG P ops S i o v a) {listed : Array Bool} (hcl : Closed ops listed) (hun : listed.getD i true = false)
    {K : Act → World → Prop} {w : World} (hS : S listed w) (h : K (a.put o.dst v) w) : wpOp P ops Q i K a w := by
  unfold Go.wpOp
  simp only [hi]
  rcases hy with ⟨hw, hv⟩ | ⟨hw, rfl⟩
  · simp only [hw, if_true, Oper.wp, hv listed w hcl hun hS, Oper.upon]; exact .inl h
  · simp only [hw, Bool.false_eq_true, if_false]; exact h
theorem wpAnyG_first {i : Nat} {oi : Oper} {v : Value} (hi : ops[i]? = some oi) (hsel : ∀ (j : Nat) (o : Oper) cs b, ops[j]? = some o → o.op ≠ .select cs b)
    (hQ : ∀ c a w, Q (.panic c) (a.put oi.dst v) w → Q (.panic c) a w) (hSi : ∀ listed w, S (listed.setIfInBounds i true) w ↔ S listed w) :
    ∀ (fuel : Nat) (listed : Array Bool) (a : Act) (w : World),
      (∀ j oj, ops[j]? = some oj → j ≠ i → listed.getD j true = false → (∀ e ∈ oj.after, Region.binds .any e = true → e.on ≠ i) → oi.apart ops oj = true) →
      Closed ops listed → i ∈ Region.ready .any ops listed → YieldsG P ops S i oi v a → S listed w →
      wpAnyG P ops Q S fuel (listed.setIfInBounds i true) (a.put oi.dst v) w → wpAnyG P ops Q S (fuel + 1) listed a w := by
  intro fuel
  induction fuel with
  | zero =>
    intro listed a w _ hcl hr hy hS H
    refine ⟨fun h => (by rw [h] at hr; cases hr), fun j hj => ?_⟩
    by_cases hji : j = i
    · subst hji; exact hy.wpOp hi hcl (mem_ready.1 hj).1 hS ⟨(hSi _ _).2 hS, H⟩
    · have := ready_mono hj hji
      rw [H.1] at this
      cases this
  | succ fuel ih =>
    intro listed a w hfree hcl hr hy hS H
    refine ⟨fun h => (by rw [h] at hr; cases hr), fun j hj => ?_⟩
    by_cases hji : j = i
    · subst hji; exact hy.wpOp hi hcl (mem_ready.1 hj).1 hS ⟨(hSi _ _).2 hS, H⟩
    · have h1 := H.2 j (ready_mono hj hji)
      obtain ⟨hjun, oj, hoj, hall⟩ := mem_ready.1 hj
      have hnot : ∀ e ∈ oj.after, Region.binds .any e = true → e.on ≠ i := fun e he hb heq => by
        have h1 := hall e he hb
        have h0 := (mem_ready.1 hr).1
        rw [heq] at h1
        rcases Nat.lt_or_ge i listed.size with h' | h'
        · simp [h'] at h0 h1; rw [h0] at h1; cases h1
        · simp [Array.getElem?_eq_none h'] at h1
      obtain ⟨a1, a2, a3⟩ := Oper.apart_spec (hfree j oj hoj hji hjun hnot)
      have h2 := wpOp_putG (Y := YieldsG P ops S i oi v) hoj (hfree j oj hoj hji hjun hnot) (fun cs b => hsel j oj cs b hoj)
        (fun a u hy => hy.of_same (execOp_put oi (fun cs b => hsel i oi cs b hi) a oj.dst u a3) (wanted_put oi a oj.dst u a3)) (fun a d hy => hy.of_same rfl rfl) hQ hy h1
      have hfree' : ∀ k ok, ops[k]? = some ok → k ≠ i → (listed.setIfInBounds j true).getD k true = false →
          (∀ e ∈ ok.after, Region.binds .any e = true → e.on ≠ i) → oi.apart ops ok = true := fun k ok hk hki hun hno => by
        refine hfree k ok hk hki ?_ hno
        by_cases hjk : j = k
        · subst hjk; exact hjun
        · rw [getD_set_ne true hjk] at hun; exact hun
      refine wpOp_mono (fun a' w' h3 => ?_) h2
      have hS' : S (listed.setIfInBounds j true) w' := by
        have := h3.2.1
        rw [Array.setIfInBounds_comm _ _ (Ne.symm hji)] at this
        exact (hSi _ _).1 this
      refine ⟨hS', ih (listed.setIfInBounds j true) a' w' hfree' (hcl.next hj) (ready_mono hr (Ne.symm hji)) h3.1 hS' ?_⟩
      rw [Array.setIfInBounds_comm _ _ hji]
      exact h3.2.2
end
variable {cfg : Cfg} {nt : Nat} {f : Blk → Bool} {ops : Array Oper} {ds : List Deferred}
def NoLoud (q : QM) (ops : Array Oper) (listed : Array Bool) : Prop := ∀ (j : Nat) (o : Oper), ops[j]? = some o → (isLoud o && !isQuiet q o) = true → listed.getD j false = false
def SD (q : QM) (ops : Array Oper) (f : Blk → Bool) (Hs : Heap) (Fs : Nat → List Nat) (ws : World) (listed : Array Bool) (w : World) : Prop :=
  (∀ e, q.late = e + 1 → listed.getD e false = false) → ((∀ (i : Nat) (b : Blk), Hs[i]? = some b → f b = true → ∀ n ∈ Fs i, w.heap[n]? = ws.heap[n]?) ∧ (NoLoud q ops listed → ∀ (i : Nat) (b : Blk), Hs[i]? = some b → ∀ n ∈ Fs i, w.heap[n]? = ws.heap[n]?))
theorem NoLoud.still {q : QM} {i : Nat} {o : Oper} (ho : ops[i]? = some o) (hl : (isLoud o && !isQuiet q o) = false) (listed : Array Bool) : NoLoud q ops (listed.setIfInBounds i true) ↔ NoLoud q ops listed := by
  constructor
  · intro h j p hp hpl
    have hij : i ≠ j := fun e => by subst e; rw [ho] at hp; injection hp with hp; subst hp; rw [hl] at hpl; cases hpl
    have := h j p hp hpl
    rwa [getD_set_ne false hij] at this
  · intro h j p hp hpl
    have hij : i ≠ j := fun e => by subst e; rw [ho] at hp; injection hp with hp; subst hp; rw [hl] at hpl; cases hpl
    rw [getD_set_ne false hij]
    exact h j p hp hpl
theorem dep_listed {i : Nat} {listed : Array Bool} (hc : Closed ops listed) : ∀ (n j : Nat), depOn ops.toList i n j = true → listed.getD j false = true → listed.getD i false = true
  | 0, _, h, _ => by cases h
  | n + 1, j, h, hj => by
    unfold depOn at h
    split at h
    · rename_i o ho
      have ho : ops[j]? = some o := by rw [← Array.getElem?_toList]; exact ho
      simp only [List.any_eq_true, Bool.and_eq_true, Bool.or_eq_true] at h
      obtain ⟨e, he, h1, h2⟩ := h
      have hl := hc j o ho hj e (by simpa using he) h1
      rcases h2 with h2 | h2
      · rw [← Nat.eq_of_beq_eq_true h2]; exact hl
      · exact dep_listed hc n e.on h2 hl
    · cases h
theorem noLoud_of_early {q : QM} {i : Nat} (h : early q ops.toList i = true) {listed : Array Bool} (hc : Closed ops listed) (hun : listed.getD i true = false) : NoLoud q ops listed := by
  intro j o ho hl
  cases hj : listed.getD j false with
  | false => rfl
  | true =>
    unfold early at h
    have hjl : j < ops.toList.length := by rw [Array.length_toList]; exact (Array.getElem?_eq_some_iff.1 ho).1
    have hj' := List.all_eq_true.1 h j (List.mem_range.2 hjl)
    have ho' : ops.toList[j]? = some o := by rw [Array.getElem?_toList]; exact ho
    simp only [ho'] at hj'
    rw [hl] at hj'
    simp only [Bool.not_true, Bool.false_or] at hj'
    have := dep_listed hc _ j hj' hj
    rcases Nat.lt_or_ge i listed.size with h' | h'
    · simp [h'] at this hun; rw [this] at hun; cases hun
    · simp [Array.getElem?_eq_none h'] at this
theorem late_dep {q : QM} {ops : Array Oper} (h : lateOk ops q.late = true) {e : Nat} (he : q.late = e + 1) : loudAt ops e = true ∧ ∀ j, j < ops.size → j ≠ e → depOn ops.toList j ops.toList.length e = true := by
  rw [he] at h
  simp only [lateOk, Bool.and_eq_true, List.all_eq_true, List.mem_range, Bool.or_eq_true] at h
  exact ⟨h.1, fun j hj hne => (h.2 j hj).resolve_left (fun hb => hne (Nat.eq_of_beq_eq_true hb))⟩
theorem late_not {q : QM} {ops : Array Oper} (h : lateOk ops q.late = true) {i : Nat} {o : Oper} (ho : ops[i]? = some o) (hl : isLoud o = false) : q.late ≠ i + 1 := by
  intro he
  have := (late_dep h he).1
  unfold loudAt at this
  rw [ho] at this
  simp only [hl] at this
  cases this
theorem late_un {q : QM} {ops : Array Oper} (h : lateOk ops q.late = true) {i : Nat} (hi : i < ops.size) {listed : Array Bool} (hc : Closed ops listed) (hun : listed.getD i true = false) : ∀ e, q.late = e + 1 → listed.getD e false = false := by
  intro e he
  cases hj : listed.getD e false with
  | false => rfl
  | true =>
    exfalso
    have hl : listed.getD i false = true := by
      by_cases hie : i = e
      · rw [hie]; exact hj
      · exact dep_listed hc _ e ((late_dep h he).2 i hi hie) hj
    rcases Nat.lt_or_ge i listed.size with h' | h'
    · simp [h'] at hl hun; rw [hl] at hun; cases hun
    · simp [Array.getElem?_eq_none h'] at hl
theorem lkq_still {q : QM} {i : Nat} (h : q.late ≠ i + 1) (lk : Option (Blk → Bool)) : lkq q i lk = lk := by
  unfold lkq
  have e : Nat.beq q.late (i + 1) = false := by
    cases hb : Nat.beq q.late (i + 1) with
    | false => rfl
    | true => exact (h (Nat.eq_of_beq_eq_true hb)).elim
  rw [e]; rfl
theorem satR_of_SD {q : QM} {ρs ρ : List Value} {Fs : Nat → List Nat} {Hs : Heap} {ws w : World} (hs : Sat cfg.elT ρs Fs Hs ws) (hl : Le ρs ρ) {i : Nat} {listed : Array Bool} (hc : Closed ops listed) (hun : listed.getD i true = false)
    (hlt : lateOk ops q.late = true) (hisz : i < ops.size) (h0 : SD q ops f Hs Fs ws listed w) : SatR cfg (bif early q ops.toList i then none else some f) ρ Fs Hs w := by
  have h := h0 (late_un hlt hisz hc hun)
  have hi : ∀ (j : Nat) (b : Blk), Hs[j]? = some b → (∀ n ∈ Fs j, w.heap[n]? = ws.heap[n]?) → ∃ x, ρ[j]? = some x ∧ b.holds cfg.elT ρ w x (Fs j) := by
    intro j b hb hw
    obtain ⟨x, hx1, hx2⟩ := hs.reads none j b hb rfl
    exact ⟨x, hl j x hx1, Blk.holds_le hl hw b hx2⟩
  intro j b hb hm
  cases he : early q ops.toList i with
  | true => exact hi j b hb (h.2 (noLoud_of_early he hc hun) j b hb)
  | false =>
    rw [he] at hm
    exact hi j b hb (h.1 j b hb hm)
theorem exOps_still (ok : CfgOK cfg) {q : QM} (hlt : lateOk ops q.late = true) {ρs ρ : List Value} {Fs F : Nat → List Nat} {Hs H : Heap} {ws w : World} (hss : Sat cfg.elT ρs Fs Hs ws) (hl : Le ρs ρ) {i : Nat} {rest : List Nat} {env : Env} {a : Act} {J : Env → Heap → Prop} {o : Oper} (ho : ops[i]? = some o)
    (hst : isLoud o = false) (h : exOps cfg nt (some f) q (early q ops.toList) (some Hs) ops.toList (i :: rest) env H J) (hs : St cfg nt ds ρ F env H a w) {listed : Array Bool} (hc : Closed ops listed) (hun : listed.getD i true = false) (hS : SD q ops f Hs Fs ws listed w) :
    ∃ x env', exOps cfg nt (some f) q (early q ops.toList) (some Hs) ops.toList rest env' H J ∧ St cfg nt ds ρ F env' H (a.put o.dst x) w ∧ YieldsG cfg.P ops (SD q ops f Hs Fs ws) i o x a := by
  have st : Step cfg (some f) ρ F H w ρ F H w := .refl hs.sat
  have hlk : lkq q i (some f) = some f := lkq_still (late_not hlt ho hst) _
  have hisz : i < ops.size := (Array.getElem?_eq_some_iff.1 ho).1
  have pure : ∀ env1, St cfg nt ds ρ F env1 H a w → Region.wanted o (yielded ops a.tmps) = true →
      exOp cfg (some f) q (early q ops.toList i) (some Hs) o env1 H (fun v H => exOps cfg nt (some f) q (early q ops.toList) (some Hs) ops.toList rest (updO nt env1 o.dst v) H J) →
      ∃ x env', exOps cfg nt (some f) q (early q ops.toList) (some Hs) ops.toList rest env' H J ∧ St cfg nt ds ρ F env' H (a.put o.dst x) w ∧ YieldsG cfg.P ops (SD q ops f Hs Fs ws) i o x a := by
    intro env1 hs1 hw h1
    unfold exOp at h1
    rw [hst] at h1
    simp only [cond_false] at h1
    obtain ⟨v, x, g1, g2, g3⟩ := pureOp_sound (F := Fs) ok h1 hs1.env (satR_of_SD hss hl hc hun hlt hisz hS) (hss.shape.le hl)
    exact ⟨x, _, g1, hs1.put st g2 _, .inl ⟨hw, fun listed' w' hc' hun' hS' => g3 w' (satR_of_SD hss hl hc' hun' hlt hisz hS')⟩⟩
  simp only [exOps, hlk] at h
  split at h
  · exact h.elim
  · rename_i o' ho'
    have ho2 : ops[i]? = some o' := by rw [← Array.getElem?_toList]; exact ho'
    rw [ho] at ho2; injection ho2 with ho2; subst ho2
    split at h
    · rename_i hg
      exact pure env hs (by unfold Region.wanted; rw [hg]) h
    · rename_i j want hg
      split at h
      · exact h.elim
      · rename_i p hp
        have hp' : ops[j]? = some p := by rw [← Array.getElem?_toList]; exact hp
        split at h
        · exact h.elim
        · rename_i d hd
          split at h
          · rename_i b hb
            obtain ⟨hv, hds⟩ := bool_size hs hb
            have hw := guard_wanted hp' hd hv hds hg
            have hs' := hs.known hb
            have fin : ∀ wn : Bool, Region.wanted o (yielded ops a.tmps) = wn →
                (bif wn then exOp cfg (some f) q (early q ops.toList i) (some Hs) o (updO nt env (some d) (vb b)) H (fun v H => exOps cfg nt (some f) q (early q ops.toList) (some Hs) ops.toList rest (updO nt (updO nt env (some d) (vb b)) o.dst v) H J)
                  else exOps cfg nt (some f) q (early q ops.toList) (some Hs) ops.toList rest (updO nt (updO nt env (some d) (vb b)) o.dst (.ext undef)) H J) →
                ∃ x env', exOps cfg nt (some f) q (early q ops.toList) (some Hs) ops.toList rest env' H J ∧ St cfg nt ds ρ F env' H (a.put o.dst x) w ∧ YieldsG cfg.P ops (SD q ops f Hs Fs ws) i o x a := by
              intro wn hwn hh
              cases wn with
              | true => exact pure _ hs' hwn hh
              | false => exact ⟨undef, _, hh, hs'.put st (.inr rfl) _, .inr ⟨hwn, rfl⟩⟩
            rcases br_elim h with ⟨rfl, h⟩ | ⟨rfl, h⟩
            · exact fin want (by rw [hw]; cases want <;> rfl) h
            · exact fin (!want) (by rw [hw]; cases want <;> rfl) h
          · rename_i vs hb
            cases e : vs.toList.isEmpty with
            | false => rw [e] at h; exact h.elim
            | true =>
              rw [e] at h
              simp only [cond_true] at h
              have h1 := hs.env d
              rw [hb] at h1
              exact ⟨undef, _, h, hs.put st (.inr rfl) _, .inr ⟨guard_unasked hp' hd (den_ext h1) hg, rfl⟩⟩
          · exact h.elim
theorem Step.none {lk : Option (Blk → Bool)} {ρ ρ' : List Value} {F F' : Nat → List Nat} {H H' : Heap} {w w' : World} (h : Step cfg lk ρ F H w ρ' F' H' w') : Step cfg none ρ F H w ρ' F' H' w' :=
  ⟨h.le, h.sat, h.fr, fun _ hf => by cases hf⟩
theorem late_all {q : QM} {ops : Array Oper} (h : lateOk ops q.late = true) {e : Nat} (he : q.late = e + 1) {listed : Array Bool} (hsz : listed.size = ops.size) (hc : Closed ops (listed.setIfInBounds e true)) : ∀ j, j < ops.size → (listed.setIfInBounds e true).getD j true = true := by
  obtain ⟨h1, h2⟩ := late_dep h he
  have hes : e < ops.size := by
    unfold loudAt at h1
    split at h1
    · cases h1
    · rename_i o ho; exact (Array.getElem?_eq_some_iff.1 ho).1
  have hself : (listed.setIfInBounds e true).getD e false = true := by simp [hsz, hes]
  intro j hj
  have hl : (listed.setIfInBounds e true).getD j false = true := by
    by_cases hje : j = e
    · rw [hje]; exact hself
    · exact dep_listed hc _ e (h2 j hj hje) hself
  have hjs : j < (listed.setIfInBounds e true).size := by simp [hsz, hj]
  simp [hsz, hj] at hl ⊢
  exact hl
theorem not_ready {ops : Array Oper} {listed : Array Bool} (h : ∀ j, j < ops.size → listed.getD j true = true) (i : Nat) : i ∉ Region.ready .any ops listed := by
  intro hi
  obtain ⟨hun, o, ho, _⟩ := mem_ready.1 hi
  rw [h i (Array.getElem?_eq_some_iff.1 ho).1] at hun
  cases hun
theorem ready_nil {ops : Array Oper} {listed : Array Bool} (h : ∀ j, j < ops.size → listed.getD j true = true) : Region.ready .any ops listed = [] := by
  cases hr : Region.ready .any ops listed with
  | nil => rfl
  | cons x r => exact (not_ready h x (by rw [hr]; simp)).elim
theorem planGo_nil {ops : Array Oper} {listed : Array Bool} {rest : List Nat} (hp : planGo ops rest listed = true) (h : ∀ j, j < ops.size → listed.getD j true = true) : rest = [] := by
  cases rest with
  | nil => rfl
  | cons i r =>
    exfalso
    simp only [planGo, Bool.and_eq_true] at hp
    have h1 := hp.1
    split at h1
    · cases h1
    · rename_i o ho
      cases hl : isLoud o with
      | true =>
        rw [hl] at h1
        simp only [cond_true] at h1
        have hr : Region.ready .any ops listed = [i] := by simpa using h1
        exact not_ready h i (by rw [hr]; simp)
      | false =>
        rw [hl] at h1
        simp only [cond_false, Bool.and_eq_true] at h1
        exact not_ready h i (by simpa using h1.1)
theorem SD.still {q : QM} {ops : Array Oper} {Hs : Heap} {Fs : Nat → List Nat} {ws : World} (hlt : lateOk ops q.late = true) {i : Nat} {o : Oper} (ho : ops[i]? = some o) (hl : isLoud o = false) (hlq : (isLoud o && !isQuiet q o) = false) (listed : Array Bool) (w : World) :
    SD q ops f Hs Fs ws (listed.setIfInBounds i true) w ↔ SD q ops f Hs Fs ws listed w := by
  have hg : (∀ e, q.late = e + 1 → (listed.setIfInBounds i true).getD e false = false) ↔ (∀ e, q.late = e + 1 → listed.getD e false = false) := by
    have hne : ∀ e, q.late = e + 1 → i ≠ e := fun e he hie => late_not hlt ho hl (by rw [he, hie])
    constructor
    · intro h e he
      have := h e he
      rwa [getD_set_ne false (hne e he)] at this
    · intro h e he
      rw [getD_set_ne false (hne e he)]
      exact h e he
  unfold SD
  rw [hg, NoLoud.still ho hlq]
theorem exOps_drawn {q : QM} (ok : CfgOK cfg) (hlt : lateOk ops q.late = true) (hsig : ∀ g s, cfg.sigs g = some s → SpecOK cfg.P cfg.elT g s) (hlk : LkOK (some f)) (hsel : Region.noSelect ops = true) {Q : Exit → Act → World → Prop} (hQ : ∀ c a w, ¬ Q (.panic c) a w) {J : Env → Heap → Prop}
    {ρs : List Value} {Fs : Nat → List Nat} {Hs : Heap} {ws : World} (hss : Sat cfg.elT ρs Fs Hs ws) :
    ∀ (plan : List Nat) (listed : Array Bool) (ρ : List Value) (F : Nat → List Nat) (H : Heap) (w : World) (env : Env) (a : Act), planGo ops plan listed = true → listed.size = ops.size → Closed ops listed →
      exOps cfg nt (some f) q (early q ops.toList) (some Hs) ops.toList plan env H J → St cfg nt ds ρ F env H a w → Step cfg (some f) ρs Fs Hs ws ρ F H w → (NoLoud q ops listed → Kept (some fun _ => true) Hs Fs ws H F w) →
      (∀ ρ' F' H' w' env' a', J env' H' → St cfg nt ds ρ' F' env' H' a' w' → Step cfg none ρs Fs Hs ws ρ' F' H' w' → Q .normal a' w') →
      wpAnyG cfg.P ops Q (SD q ops f Hs Fs ws) plan.length listed a w
  | [], listed, ρ, F, H, w, env, a, hp, hsz, hc, h, hs, st, hnl, hn => by
    have hr : Region.ready .any ops listed = [] := by simpa [planGo] using hp
    exact ⟨hr, hn ρ F H w env a h hs st.none⟩
  | i :: rest, listed, ρ, F, H, w, env, a, hp, hsz, hc, h, hs, st, hnl, hn => by
    simp only [planGo, Bool.and_eq_true] at hp
    obtain ⟨hp1, hp2⟩ := hp
    have hS : SD q ops f Hs Fs ws listed w := fun _ => ⟨fun j b hb hfb => (st.kept f rfl j b hb hfb).2.2, fun hno j b hb => (hnl hno _ rfl j b hb rfl).2.2⟩
    have hsz' : (listed.setIfInBounds i true).size = ops.size := by simpa using hsz
    cases ho : ops[i]? with
    | none => rw [ho] at hp1; cases hp1
    | some o =>
      rw [ho] at hp1
      simp only at hp1
      cases hl : isLoud o with
      | true =>
        rw [hl] at hp1
        simp only [cond_true] at hp1
        have hr : Region.ready .any ops listed = [i] := by simpa using hp1
        have hri : i ∈ Region.ready .any ops listed := by rw [hr]; simp
        have hil : i < listed.size := by rw [hsz]; exact (Array.getElem?_eq_some_iff.1 ho).1
        refine ⟨(fun h0 => by rw [hr] at h0; cases h0), fun j hj => ?_⟩
        rw [hr] at hj
        simp only [List.mem_singleton] at hj
        subst hj
        refine exOps_wpOp ok hsig hlk (fun o' ho' => .inl (by rw [ho] at ho'; injection ho' with ho'; subst ho'; exact hl)) h hs (fun ρ' F' H' w' env' a' h1 h2 h3 h4 => ?_)
        by_cases hle : q.late = j + 1
        · have hall := late_all hlt hle hsz (hc.next hri)
          have hrest : rest = [] := planGo_nil hp2 hall
          subst hrest
          refine ⟨fun hg => ?_, ready_nil hall, hn ρ' F' H' w' env' a' h1 h2 (st.none.trans h3.none)⟩
          have := hg j hle
          simp [hil] at this
        rw [lkq_still hle] at h3
        have st' := st.trans h3
        have hnl' : NoLoud q ops (listed.setIfInBounds j true) → Kept (some fun _ => true) Hs Fs ws H' F' w' := by
          intro hno
          cases hqo : isQuiet q o with
          | false =>
            have := hno j o ho (by rw [hl, hqo]; rfl)
            simp [hil] at this
          | true => exact (hnl ((NoLoud.still ho (by rw [hqo]; simp) listed).1 hno)).trans (h4 o ho hl hqo)
        exact ⟨fun _ => ⟨fun k b hb hfb => (st'.kept f rfl k b hb hfb).2.2, fun hno k b hb => (hnl' hno _ rfl k b hb rfl).2.2⟩, exOps_drawn ok hlt hsig hlk hsel hQ hss rest _ ρ' F' H' w' env' a' hp2 hsz' (hc.next hri) h1 h2 st' hnl' hn⟩
      | false =>
        rw [hl] at hp1
        simp only [cond_false, Bool.and_eq_true] at hp1
        have hri : i ∈ Region.ready .any ops listed := by simpa using hp1.1
        have hun := (mem_ready.1 hri).1
        obtain ⟨x, env', h1, h2, h3⟩ := exOps_still ok hlt hss st.le ho hl h hs hc hun hS
        have hlq : (isLoud o && !isQuiet q o) = false := by rw [hl]; rfl
        have hnl' : NoLoud q ops (listed.setIfInBounds i true) → Kept (some fun _ => true) Hs Fs ws H F w := fun hno => hnl ((NoLoud.still ho hlq listed).1 hno)
        refine wpAnyG_first ho (Region.noSelect_spec hsel) (fun c a w hq => absurd hq (hQ c _ w)) (fun listed w => ?_) rest.length listed a w (Region.free_spec ho hp1.2) hc hri h3 hS
          (exOps_drawn ok hlt hsig hlk hsel hQ hss rest _ ρ F H w env' _ hp2 hsz' (hc.next hri) h1 h2 st hnl' hn)
        exact SD.still hlt ho hl hlq listed w
theorem closed_start (ops : Array Oper) : Closed ops (Array.replicate ops.size false) := by
  intro j o ho hl
  exfalso
  have : (Array.replicate ops.size false).getD j false = false := by simp [Array.getD]
  rw [this] at hl
  cases hl
theorem lkOK_lkOf (kd : Nat) : LkOK (some (lkOf kd)) := by
  intro f hf g b c h
  injection hf with hf
  subst hf
  cases b with
  | dead => simp only [Blk.ren, Option.some.injEq] at h; subst h; rfl
  | cells T cs =>
    simp only [Blk.ren] at h
    split at h
    · injection h with h; subst h
      match kd with
      | 0 => rfl
      | 1 => rfl
      | 2 => rfl
      | 3 => rfl
      | _ + 4 => rfl
    · cases h
  | row t l ro => simp only [Blk.ren, Option.some.injEq] at h; subst h; rfl
  | map m n => simp only [Blk.ren, Option.some.injEq] at h; subst h; rfl
  | iter m left n c => simp only [Blk.ren, Option.some.injEq] at h; subst h; rfl
  | pk tg st xs rs =>
    simp only [Blk.ren] at h
    split at h
    · injection h with h; subst h
      match kd with
      | 0 => rfl
      | 1 => rfl
      | 2 => rfl
      | 3 => rfl
      | _ + 4 => rfl
    · cases h
end Go.Rx
end

section
namespace Go.Rx
section
variable {P : Program} {ops : Array Oper} {Q : Exit → Act → World → Prop} {S : Array Bool → World → Prop}
theorem wpAnyG_more : ∀ (fuel : Nat) (listed : Array Bool) (a : Act) (w : World), wpAnyG P ops Q S fuel listed a w → wpAnyG P ops Q S (fuel + 1) listed a w
  | 0, listed, a, w, h => ⟨fun _ => h.2, fun i hi => by rw [h.1] at hi; cases hi⟩
  | fuel + 1, listed, a, w, h => ⟨h.1, fun i hi => wpOp_mono (fun a' w' h' => ⟨h'.1, wpAnyG_more fuel _ a' w' h'.2⟩) (h.2 i hi)⟩
theorem wpAnyG_le {m n : Nat} (h : m ≤ n) {listed : Array Bool} {a : Act} {w : World} (hw : wpAnyG P ops Q S m listed a w) : wpAnyG P ops Q S n listed a w := by
  induction h with
  | refl => exact hw
  | step _ ih => exact wpAnyG_more _ _ _ _ ih
end
variable {cfg : Cfg} {nt : Nat} {f : Blk → Bool} {ops : Array Oper} {ds : List Deferred}
theorem planGoT_nil {ops : Array Oper} {listed : Array Bool} (h : ∀ j, j < ops.size → listed.getD j true = true) {t : PT} (hp : planGoT ops false t listed = true) : t = .fin := by
  cases t with
  | fin => rfl
  | op i t =>
    exfalso
    simp only [planGoT, Bool.and_eq_true] at hp
    have h1 := hp.1
    split at h1
    · cases h1
    · rename_i o ho
      cases hl : isLoud o with
      | true =>
        rw [hl] at h1
        simp only [cond_true, Bool.false_or] at h1
        have hr : Region.ready .any ops listed = [i] := by simpa using h1
        exact not_ready h i (by rw [hr]; simp)
      | false =>
        rw [hl] at h1
        simp only [cond_false, Bool.and_eq_true] at h1
        exact not_ready h i (by simpa using h1.2.1)
  | alt t u =>
    exfalso
    simp only [planGoT, Bool.and_eq_true, Bool.false_or, Bool.not_eq_true'] at hp
    have := hp.1.1
    rw [ready_nil h] at this
    cases this
theorem exOps_tree {q : QM} (ok : CfgOK cfg) (hlt : lateOk ops q.late = true) (hsig : ∀ g s, cfg.sigs g = some s → SpecOK cfg.P cfg.elT g s) (hlk : LkOK (some f)) (hsel : Region.noSelect ops = true) {Q : Exit → Act → World → Prop} (hQ : ∀ c a w, ¬ Q (.panic c) a w) {J : Env → Heap → Prop}
    {ρs : List Value} {Fs : Nat → List Nat} {Hs : Heap} {ws : World} (hss : Sat cfg.elT ρs Fs Hs ws)
    (hn : ∀ ρ' F' H' w' env' a', J env' H' → St cfg nt ds ρ' F' env' H' a' w' → Step cfg none ρs Fs Hs ws ρ' F' H' w' → Q .normal a' w') :
    ∀ (p : PT) (b : Bool) (listed : Array Bool) (ρ : List Value) (F : Nat → List Nat) (H : Heap) (w : World) (env : Env) (a : Act), planGoT ops b p listed = true → listed.size = ops.size → Closed ops listed →
      exOpsT cfg nt (some f) q (early q ops.toList) (some Hs) ops.toList p env H J → St cfg nt ds ρ F env H a w → Step cfg (some f) ρs Fs Hs ws ρ F H w → (NoLoud q ops listed → Kept (some fun _ => true) Hs Fs ws H F w) →
      match b with
      | false => wpAnyG cfg.P ops Q (SD q ops f Hs Fs ws) p.size listed a w
      | true => ∀ i ∈ heads p, i ∈ Region.ready .any ops listed → ∀ n, p.size ≤ n + 1 → wpOp cfg.P ops Q i (fun a' w' => SD q ops f Hs Fs ws (listed.setIfInBounds i true) w' ∧ wpAnyG cfg.P ops Q (SD q ops f Hs Fs ws) n (listed.setIfInBounds i true) a' w') a w
  | .fin, b, listed, ρ, F, H, w, env, a, hp, hsz, hc, h, hs, st, hnl => by
    simp only [planGoT, Bool.and_eq_true, Bool.not_eq_true'] at hp
    obtain ⟨rfl, hp⟩ := hp
    have hr : Region.ready .any ops listed = [] := by simpa using hp
    exact ⟨hr, hn ρ F H w env a h hs st.none⟩
  | .op i t, b, listed, ρ, F, H, w, env, a, hp, hsz, hc, h, hs, st, hnl => by
    simp only [planGoT, Bool.and_eq_true] at hp
    obtain ⟨hp1, hp2⟩ := hp
    have hsz' : (listed.setIfInBounds i true).size = ops.size := by simpa using hsz
    simp only [exOpsT] at h
    have hS : SD q ops f Hs Fs ws listed w := fun _ => ⟨fun j b hb hfb => (st.kept f rfl j b hb hfb).2.2, fun hno j b hb => (hnl hno _ rfl j b hb rfl).2.2⟩
    cases ho : ops[i]? with
    | none => rw [ho] at hp1; cases hp1
    | some o =>
      rw [ho] at hp1
      simp only at hp1
      have hil : i < listed.size := by rw [hsz]; exact (Array.getElem?_eq_some_iff.1 ho).1
      cases hl : isLoud o with
      | true =>
        rw [hl] at hp1
        simp only [cond_true] at hp1
        have go : i ∈ Region.ready .any ops listed → wpOp cfg.P ops Q i (fun a' w' => SD q ops f Hs Fs ws (listed.setIfInBounds i true) w' ∧ wpAnyG cfg.P ops Q (SD q ops f Hs Fs ws) t.size (listed.setIfInBounds i true) a' w') a w := by
          intro hri
          refine exOps_wpOp ok hsig hlk (fun o' ho' => .inl (by rw [ho] at ho'; injection ho' with ho'; subst ho'; exact hl)) h hs (fun ρ' F' H' w' env' a' h1 h2 h3 h4 => ?_)
          by_cases hle : q.late = i + 1
          · have hall := late_all hlt hle hsz (hc.next hri)
            have ht : t = .fin := planGoT_nil hall hp2
            subst ht
            refine ⟨fun hg => ?_, ready_nil hall, hn ρ' F' H' w' env' a' h1 h2 (st.none.trans h3.none)⟩
            have := hg i hle
            simp [hil] at this
          rw [lkq_still hle] at h3
          have st' := st.trans h3
          have hnl' : NoLoud q ops (listed.setIfInBounds i true) → Kept (some fun _ => true) Hs Fs ws H' F' w' := by
            intro hno
            cases hqo : isQuiet q o with
            | false =>
              have := hno i o ho (by rw [hl, hqo]; rfl)
              simp [hil] at this
            | true => exact (hnl ((NoLoud.still ho (by rw [hqo]; simp) listed).1 hno)).trans (h4 o ho hl hqo)
          exact ⟨fun _ => ⟨fun k b hb hfb => (st'.kept f rfl k b hb hfb).2.2, fun hno k b hb => (hnl' hno _ rfl k b hb rfl).2.2⟩, exOps_tree ok hlt hsig hlk hsel hQ hss hn t false _ ρ' F' H' w' env' a' hp2 hsz' (hc.next hri) h1 h2 st' hnl'⟩
        cases b with
        | false =>
          have hr : Region.ready .any ops listed = [i] := by simpa using hp1
          refine ⟨(fun h0 => by rw [hr] at h0; cases h0), fun j hj => ?_⟩
          rw [hr] at hj
          simp only [List.mem_singleton] at hj
          subst hj
          exact go (by rw [hr]; simp)
        | true =>
          intro j hj hri n hle
          simp only [heads, List.mem_singleton] at hj
          subst hj
          simp only [PT.size] at hle
          exact wpOp_mono (fun a' w' h' => ⟨h'.1, wpAnyG_le (by omega) h'.2⟩) (go hri)
      | false =>
        rw [hl] at hp1
        simp only [cond_false, Bool.and_eq_true, Bool.not_eq_true'] at hp1
        obtain ⟨rfl, hp1⟩ := hp1
        have hri : i ∈ Region.ready .any ops listed := by simpa using hp1.1
        have hun := (mem_ready.1 hri).1
        obtain ⟨x, env', h1, h2, h3⟩ := exOps_still ok hlt hss st.le ho hl h hs hc hun hS
        have hlq : (isLoud o && !isQuiet q o) = false := by rw [hl]; rfl
        have hnl' : NoLoud q ops (listed.setIfInBounds i true) → Kept (some fun _ => true) Hs Fs ws H F w := fun hno => hnl ((NoLoud.still ho hlq listed).1 hno)
        refine wpAnyG_first ho (Region.noSelect_spec hsel) (fun c a w hq => absurd hq (hQ c _ w)) (fun listed w => ?_) t.size listed a w (Region.free_spec ho hp1.2) hc hri h3 hS
          (exOps_tree ok hlt hsig hlk hsel hQ hss hn t false _ ρ F H w env' _ hp2 hsz' (hc.next hri) h1 h2 st hnl')
        exact SD.still hlt ho hl hlq listed w
  | .alt t u, b, listed, ρ, F, H, w, env, a, hp, hsz, hc, h, hs, st, hnl => by
    simp only [planGoT, Bool.and_eq_true] at hp
    obtain ⟨hp0, hp1, hp2⟩ := hp
    obtain ⟨g1, g2⟩ := h
    have r1 := exOps_tree ok hlt hsig hlk hsel hQ hss hn t true listed ρ F H w env a hp1 hsz hc g1 hs st hnl
    have r2 := exOps_tree ok hlt hsig hlk hsel hQ hss hn u true listed ρ F H w env a hp2 hsz hc g2 hs st hnl
    have both : ∀ i ∈ heads (.alt t u), i ∈ Region.ready .any ops listed → ∀ n, (PT.alt t u).size ≤ n + 1 → wpOp cfg.P ops Q i (fun a' w' => SD q ops f Hs Fs ws (listed.setIfInBounds i true) w' ∧ wpAnyG cfg.P ops Q (SD q ops f Hs Fs ws) n (listed.setIfInBounds i true) a' w') a w := by
      intro i hi hri n hle
      simp only [PT.size] at hle
      simp only [heads, List.mem_append] at hi
      rcases hi with hi | hi
      · exact r1 i hi hri n (by omega)
      · exact r2 i hi hri n (by omega)
    cases b with
    | true => exact both
    | false =>
      simp only [Bool.false_or, Bool.and_eq_true, Bool.not_eq_true', List.all_eq_true] at hp0
      obtain ⟨hne, hall⟩ := hp0
      have hne' : Region.ready .any ops listed ≠ [] := by intro e; rw [e] at hne; cases hne
      have hpos : ∃ i, i ∈ Region.ready .any ops listed := List.exists_mem_of_ne_nil _ hne'
      have hsize : ∃ n, (PT.alt t u).size = n + 1 := by
        obtain ⟨i, hi⟩ := hpos
        have hm := hall i hi
        have : ∀ p : PT, heads p ≠ [] → 0 < p.size := by
          intro p
          induction p with
          | fin => intro h; exact absurd rfl h
          | op i t ih => intro _; simp [PT.size]
          | alt t u ih1 ih2 =>
            intro h
            simp only [heads] at h
            simp only [PT.size]
            by_cases h1 : heads t = []
            · have h2 : heads u ≠ [] := fun h2 => h (by rw [h1, h2]; rfl)
              have := ih2 h2; omega
            · have := ih1 h1; omega
        have hp := this (.alt t u) (fun e => by rw [e] at hm; simp at hm)
        exact ⟨(PT.alt t u).size - 1, by omega⟩
      obtain ⟨n, hn'⟩ := hsize
      show wpAnyG cfg.P ops Q (SD q ops f Hs Fs ws) (PT.alt t u).size listed a w
      rw [hn']
      refine ⟨fun h0 => absurd h0 hne', fun i hi => both i (by simpa using hall i hi) hi n (by omega)⟩
end Go.Rx
end

section
namespace Go.Rx
variable {cfg : Cfg} {H : Heap} {ρ : List Value} {F : Nat → List Nat} {w : World} {ds : List Deferred}
def RelL (ρ : List Value) : List V → List Value → Prop
  | [], [] => True
  | v :: vs, x :: xs => Rel ρ v x ∧ RelL ρ vs xs
  | _, _ => False
theorem RelL.le {ρ ρ' : List Value} (hl : Le ρ ρ') : ∀ {vs : List V} {xs : List Value}, RelL ρ vs xs → RelL ρ' vs xs
  | [], [], _ => trivial
  | _ :: _, _ :: _, h => ⟨h.1.le hl, RelL.le hl h.2⟩
theorem rowifyL_sound {lk : Option (Blk → Bool)} : ∀ (ps : List (Option Nat × V)) (xs : List Value) (H : Heap) (ρ : List Value) (F : Nat → List Nat) {vs : List V} {H' : Heap}, rowifyL H ps = (vs, H') → RelL ρ (ps.map (·.2)) xs → Sat cfg.elT ρ F H w →
    ∃ ρ' F', RelL ρ' vs xs ∧ Step cfg lk ρ F H w ρ' F' H' w
  | [], xs, H, ρ, F, vs, H', h, hx, hs => by
    simp only [rowifyL] at h
    injection h with h1 h2
    subst h1; subst h2
    exact ⟨ρ, F, hx, .refl hs⟩
  | (tg, v) :: r, [], H, ρ, F, vs, H', h, hx, hs => hx.elim
  | (tg, v) :: r, x :: xs, H, ρ, F, vs, H', h, hx, hs => by
    simp only [rowifyL] at h
    cases h1 : rowify H tg v with
    | mk v1 H1 =>
    rw [h1] at h
    simp only at h
    cases h2 : rowifyL H1 r with
    | mk vs1 H2 =>
    rw [h2] at h
    injection h with e1 e2
    subst e1; subst e2
    obtain ⟨ρ1, F1, g1, st1⟩ := rowify_sound (lk := lk) h1 hx.1 hs
    obtain ⟨ρ2, F2, g2, st2⟩ := rowifyL_sound (lk := lk) r xs H1 ρ1 F1 h2 (RelL.le st1.le hx.2) st1.sat
    exact ⟨ρ2, F2, ⟨g1.le st2.le, g2⟩, st1.trans st2⟩
theorem addNew_prefix : ∀ (l acc : List Nat), ∃ r, addNew acc l = acc ++ r
  | [], acc => ⟨[], by simp [addNew]⟩
  | i :: l, acc => by
    simp only [addNew]
    cases mem i acc with
    | true => exact addNew_prefix l acc
    | false =>
      obtain ⟨r, h⟩ := addNew_prefix l (acc ++ [i])
      exact ⟨[i] ++ r, by simp only [cond_false]; rw [h]; simp⟩
theorem reach_prefix (H : Heap) : ∀ (n : Nat) (acc : List Nat), ∃ r, reach H n acc = acc ++ r
  | 0, acc => ⟨[], by simp [reach]⟩
  | n + 1, acc => by
    simp only [reach]
    obtain ⟨r, h⟩ := addNew_prefix (acc.flatMap (idsAt H)) acc
    obtain ⟨r', h'⟩ := reach_prefix H n (addNew acc (acc.flatMap (idsAt H)))
    exact ⟨r ++ r', by rw [h', h]; simp⟩
theorem regroup {ids : List Nat} {Hc : Heap} (hs : Sat cfg.elT ρ F H w) (hsel : sel H (idx ids) ids = some Hc) (hnd : nodup ids = true) :
    ∃ ρ' F', (∀ i j, idx ids i = some j → ρ'[j]? = ρ[i]?) ∧ (∀ p i : Nat, ids[p]? = some i → ρ'[p]? = ρ[i]?) ∧ Sat cfg.elT ρ' F' Hc w ∧ Fr H F w Hc F' w := by
  obtain ⟨hlen, hget⟩ := sel_spec hsel
  have hρc : ∀ i j, idx ids i = some j → (ids.map fun i => ρ.getD i undef)[j]? = ρ[i]? := by
    intro i j hij
    have hj := idx_spec hij
    have hjl : j < ids.length := (List.getElem?_eq_some_iff.1 hj).1
    have hjc : j < Hc.length := by rw [hlen]; exact hjl
    obtain ⟨i', b, e1, e2, _⟩ := hget j _ (List.getElem?_eq_getElem hjc)
    rw [hj] at e1; injection e1 with e1; subst e1
    have hil : i < ρ.length := by rw [hs.len]; exact (List.getElem?_eq_some_iff.1 e2).1
    rw [List.getElem?_map, hj]
    simp [List.getD, List.getElem?_eq_getElem hil]
  refine ⟨ids.map fun i => ρ.getD i undef, fun p => F (ids.getD p 0), hρc, fun p i h => hρc i p (idx_complete hnd h), ?_, ⟨rfl, rfl, rfl, Nat.le_refl _, fun _ _ _ => rfl, fun p c hc hw n hn => ?_, fun p c hc n hn => ?_⟩⟩
  · refine ⟨by simp [hlen], fun p c y hcp hy => ?_, fun p c hcp n hn => ?_, fun p q c d hcp hdq hpq hw n hn => ?_⟩
    · obtain ⟨i, b, e1, e2, e3⟩ := hget p c hcp
      have hp := hρc i p (idx_complete hnd e1)
      rw [hy] at hp
      have hgd : ids.getD p 0 = i := by simp [List.getD, e1]
      show c.holds cfg.elT _ w y (F (ids.getD p 0))
      rw [hgd]
      exact Blk.ren_holds hρc e3 (hs.each i b y e2 hp.symm)
    · obtain ⟨i, b, e1, e2, e3⟩ := hget p c hcp
      have hgd : ids.getD p 0 = i := by simp [List.getD, e1]
      simp only [hgd] at hn
      exact hs.lt i b e2 n hn
    · obtain ⟨i, b, e1, e2, e3⟩ := hget p c hcp
      obtain ⟨j, b2, f1, f2, f3⟩ := hget q d hdq
      have hgd : ids.getD p 0 = i := by simp [List.getD, e1]
      have hgd2 : ids.getD q 0 = j := by simp [List.getD, f1]
      simp only [hgd] at hn
      simp only [hgd2]
      exact hs.disj i j b b2 e2 f2 (fun e => by subst e; exact hpq (nodup_spec hnd p q i e1 f1)) (by rw [← Blk.ren_writable e3]; exact hw) n hn
  · obtain ⟨i, b, e1, e2, e3⟩ := hget p c hc
    have hgd : ids.getD p 0 = i := by simp [List.getD, e1]
    simp only [hgd] at hn
    exact .inr ⟨i, b, e2, by rw [← Blk.ren_writable e3]; exact hw, hn⟩
  · obtain ⟨i, b, e1, e2, e3⟩ := hget p c hc
    have hgd : ids.getD p 0 = i := by simp [List.getD, e1]
    simp only [hgd] at hn
    exact .inr ⟨i, b, e2, hn⟩
theorem renL_rel {ρ ρ' : List Value} {f : Nat → Option Nat} (hf : ∀ i j, f i = some j → ρ'[j]? = ρ[i]?) : ∀ {vs vs' : List V} {xs : List Value}, renL f vs = some vs' → RelL ρ vs xs → RelL ρ' vs' xs
  | [], vs', [], h, _ => by simp only [renL, Option.some.injEq] at h; subst h; trivial
  | [], vs', _ :: _, h, hx => hx.elim
  | v :: r, vs', [], h, hx => hx.elim
  | v :: r, vs', x :: xs, h, hx => by
    simp only [renL] at h
    split at h
    · rename_i v1 r1 hv hr
      injection h with h
      subst h
      exact ⟨ren_rel hf hv hx.1, renL_rel hf hr hx.2⟩
    · cases h
structure St0 (cfg : Cfg) (cx : Cx) (ds : List Deferred) (ρ0 : List Value) (F0 : Nat → List Nat) (H0 : Heap) (w0 : World) (ρ : List Value) (F : Nat → List Nat) (env : Env) (H : Heap) (a : Act) (w : World) : Prop where
  st : St cfg cx.nt ds ρ F env H a w
  fr : Fr H0 F0 w0 H F w
  pins : ∀ i, i < cx.pins → ρ[i]? = ρ0[i]?
variable {cx : Cx} {ρ0 : List Value} {F0 : Nat → List Nat} {H0 : Heap} {w0 : World}
theorem St0.step {lk : Option (Blk → Bool)} {env env' : Env} {a a' : Act} {ρ' : List Value} {F' : Nat → List Nat} {H' : Heap} {w' : World} (h : St0 cfg cx ds ρ0 F0 H0 w0 ρ F env H a w) (hp : cx.pins ≤ ρ0.length) (hs : St cfg cx.nt ds ρ' F' env' H' a' w') (st : Step cfg lk ρ F H w ρ' F' H' w') :
    St0 cfg cx ds ρ0 F0 H0 w0 ρ' F' env' H' a' w' := by
  refine ⟨hs, h.fr.trans st.fr, fun i hi => ?_⟩
  have h1 := h.pins i hi
  have hil : i < ρ0.length := by omega
  rw [List.getElem?_eq_getElem hil] at h1 ⊢
  exact st.le i _ h1
theorem mkEnv_rel {tmps : Array Value} : ∀ (keep : List (Nat × Option Nat)) (vs : List V), RelL ρ vs (keep.map fun p => tmps.getD p.1 undef) → ∀ t, Rel ρ (mkEnv (zipKeep keep vs) t) (tmps.getD t undef)
  | [], [], _, t => .inl rfl
  | [], _ :: _, h, t => h.elim
  | (u, tg) :: r, [], h, t => h.elim
  | (u, tg) :: r, v :: vs, h, t => by
    simp only [zipKeep, mkEnv]
    cases ht : Nat.beq t u with
    | true => obtain rfl := Nat.eq_of_beq_eq_true ht; exact h.1
    | false => exact mkEnv_rel r vs h.2 t
theorem relL_env {env : Env} {a : Act} (hE : ∀ t, Rel ρ (env t) (a.tmps.getD t undef)) : ∀ (keep : List (Nat × Option Nat)), RelL ρ ((keep.map fun p => (p.2, env p.1)).map (·.2)) (keep.map fun p => a.tmps.getD p.1 undef)
  | [] => trivial
  | (t, _) :: r => ⟨hE t, relL_env hE r⟩
theorem range_get (n i : Nat) (h : i < n) : (List.range n)[i]? = some i := List.getElem?_range h
theorem gc_sound {keep : List (Nat × Option Nat)} {env : Env} {a : Act} {K : Env → Heap → Prop} (hp : cx.pins ≤ ρ0.length) (h : gc cx.pins keep env H K) (hs : St0 cfg cx ds ρ0 F0 H0 w0 ρ F env H a w) :
    ∃ ρ' F' env' H', K env' H' ∧ St0 cfg cx ds ρ0 F0 H0 w0 ρ' F' env' H' a w := by
  unfold gc at h
  split at h
  rename_i vs H1 hr
  obtain ⟨ρ1, F1, g1, st1⟩ := rowifyL_sound (lk := none) _ _ H ρ F hr (relL_env hs.st.env keep) hs.st.sat
  generalize hids : reach H1 3 (addNew (List.range cx.pins) (idsL vs)) = ids at h
  simp only at h
  split at h
  · rename_i vs' Hc hren hsel
    have hc := cond_elim h
    obtain ⟨ρ2, F2, q1, q2, q3, q4⟩ := regroup st1.sat hsel hc.1
    have hrel := renL_rel q1 hren g1
    have s1 := hs.step hp (a' := a) (env' := env) ⟨fun t => (hs.st.env t).le st1.le, hs.st.size, hs.st.defers, st1.sat⟩ st1
    refine ⟨ρ2, F2, _, Hc, hc.2, ⟨⟨mkEnv_rel keep vs' hrel, hs.st.size, hs.st.defers, q3⟩, s1.fr.trans q4, fun i hi => ?_⟩⟩
    have hpre : ids[i]? = some i := by
      obtain ⟨r1, e1⟩ := addNew_prefix (idsL vs) (List.range cx.pins)
      obtain ⟨r2, e2⟩ := reach_prefix H1 3 (addNew (List.range cx.pins) (idsL vs))
      rw [← hids, e2, e1, List.append_assoc, List.getElem?_append_left (by simpa using hi)]
      exact range_get _ _ hi
    rw [q2 i i hpre]
    exact s1.pins i hi
  · exact h.elim
theorem gcO_sound {keep : Option (List (Nat × Option Nat))} {env : Env} {a : Act} {K : Env → Heap → Prop} (hp : cx.pins ≤ ρ0.length) (h : gcO cx.pins keep env H K) (hs : St0 cfg cx ds ρ0 F0 H0 w0 ρ F env H a w) :
    ∃ ρ' F' env' H', K env' H' ∧ St0 cfg cx ds ρ0 F0 H0 w0 ρ' F' env' H' a w := by
  unfold gcO at h
  split at h
  · exact gc_sound hp h hs
  · exact ⟨ρ, F, env, H, h, hs⟩
def QK (cfg : Cfg) (cx : Cx) (ds : List Deferred) (ρ0 : List Value) (F0 : Nat → List Nat) (H0 : Heap) (w0 : World) (K : Ex → Env → Heap → Prop) : Exit → Act → World → Prop
  | .normal, a, w => ∃ ρ F env H, St0 cfg cx ds ρ0 F0 H0 w0 ρ F env H a w ∧ K .normal env H
  | .exit i, a, w => ∃ ρ F env H, St0 cfg cx ds ρ0 F0 H0 w0 ρ F env H a w ∧ K (.exit i) env H
  | .ret, a, w => ∃ ρ F env H, St0 cfg cx ds ρ0 F0 H0 w0 ρ F env H a w ∧ K .ret env H
  | _, _, _ => False
theorem y40 (ok : CfgOK cfg) (hsig : ∀ g s, cfg.sigs g = some s → SpecOK cfg.P cfg.elT g s) (hp : cx.pins ≤ ρ0.length) : ∀ (c : Code) (K : Ex → Env → Heap → Prop) (env : Env) (H : Heap) (ρ : List Value) (F : Nat → List Nat) (a : Act) (w : World),
    ex cfg cx c env H K → St0 cfg cx ds ρ0 F0 H0 w0 ρ F env H a w → c.wp cfg.P (QK cfg cx ds ρ0 F0 H0 w0 K) a w := by
  intro c
  induction c with
  | skip => intro K env H ρ F a w h hs; exact wp_skip ⟨ρ, F, env, H, hs, h⟩
  | label l => intro K env H ρ F a w h hs; exact wp_label ⟨ρ, F, env, H, hs, h⟩
  | exit id => intro K env H ρ F a w h hs; exact wp_exit ⟨ρ, F, env, H, hs, h⟩
  | ret => intro K env H ρ F a w h hs; exact wp_ret ⟨ρ, F, env, H, hs, h⟩
  | goto l => intro K env H ρ F a w h hs; exact h.elim
  | refuse why => intro K env H ρ F a w h hs; exact h.elim
  | rangeFunc f ps x y _ _ => intro K env H ρ F a w h hs; exact h.elim
  | region id ops draw =>
    intro K env H ρ F a w h hs
    cases draw with
    | false =>
      have h : exOps cfg cx.nt none qm0 (fun _ => true) none ops.toList (List.range ops.toList.length) env H (K .normal) := h
      rw [Array.length_toList] at h
      exact wp_region (exOps_wpOps ok hsig _ ρ F H w env a h hs.st (fun ρ' F' H' w' env' a' h1 h2 h3 => ⟨ρ', F', env', H', hs.step hp h2 h3, h1⟩))
    | true =>
      have hd := hs.st.sat.drew
      have hst : St cfg cx.nt ds ρ F env H a w.drew := ⟨hs.st.env, hs.st.size, hs.st.defers, hd⟩
      have hs1 : St0 cfg cx ds ρ0 F0 H0 w0 ρ F env H a w.drew := ⟨hst, hs.fr.trans Fr.drew, hs.pins⟩
      have h : (match cfg.planT id with
       | some (p, kd) => bif planOkT ops p && lateOk ops (kdQ kd).late then exOpsT cfg cx.nt (some (lkOf (kdB kd))) (kdQ kd) (early (kdQ kd) ops.toList) (some H) ops.toList p env H (K .normal) else False
       | none => match cfg.plan id with
        | some (plan, kd) => bif planOk ops plan && lateOk ops (kdQ kd).late then exOps cfg cx.nt (some (lkOf (kdB kd))) (kdQ kd) (early (kdQ kd) ops.toList) (some H) ops.toList plan env H (K .normal) else False
        | none => False) := h
      split at h
      · rename_i p kd hpl
        have hc := cond_elim h
        have hc1 := hc.1
        simp only [planOkT, Bool.and_eq_true] at hc1
        obtain ⟨hc1, hlt⟩ := hc1
        obtain ⟨⟨hsel, hle⟩, hgo⟩ := hc1
        refine wp_region_any ok.mixed (wpAny_of_G (S := SD (kdQ kd) ops (lkOf (kdB kd)) H F w.drew) _ _ _ _ ?_)
        exact wpAnyG_le (Nat.le_of_ble_eq_true hle) (exOps_tree (nt := cx.nt) (f := lkOf (kdB kd)) (q := kdQ kd) (ops := ops) ok hlt hsig (lkOK_lkOf (kdB kd)) hsel (Q := QK cfg cx ds ρ0 F0 H0 w0 K) (fun _ _ _ h => h) hd
          (fun ρ' F' H' w' env' a' h1 h2 h3 => ⟨ρ', F', env', H', hs1.step hp h2 h3, h1⟩) p false (Array.replicate ops.size false) ρ F H w.drew env a hgo (by simp) (closed_start ops) hc.2 hst (.refl hd) (fun _ => Kept.refl))
      · split at h
        rotate_left
        · exact h.elim
        rename_i plan kd hpl
        have hc := cond_elim h
        have hc1 := hc.1
        simp only [planOk, Bool.and_eq_true] at hc1
        obtain ⟨hc1, hlt⟩ := hc1
        obtain ⟨⟨hsel, hlen⟩, hgo⟩ := hc1
        have hlen : plan.length = ops.size := by simpa using hlen
        refine wp_region_any ok.mixed (wpAny_of_G (S := SD (kdQ kd) ops (lkOf (kdB kd)) H F w.drew) _ _ _ _ ?_)
        rw [← hlen]
        have := exOps_drawn (nt := cx.nt) (f := lkOf (kdB kd)) (q := kdQ kd) (ops := ops) ok hlt hsig (lkOK_lkOf (kdB kd)) hsel (Q := QK cfg cx ds ρ0 F0 H0 w0 K) (fun _ _ _ h => h) hd plan (Array.replicate ops.size false) ρ F H w.drew env a hgo (by simp) (closed_start ops) hc.2 hst (.refl hd) (fun _ => Kept.refl)
          (fun ρ' F' H' w' env' a' h1 h2 h3 => ⟨ρ', F', env', H', hs1.step hp h2 h3, h1⟩)
        rw [← hlen] at this
        exact this
  | seq x y ihx ihy =>
    intro K env H ρ F a w h hs
    refine wp_seq (wp_mono (ihx _ env H ρ F a w h hs) (fun e a w hq => ?_))
    cases e with
    | normal => obtain ⟨ρ', F', env', H', h1, h2⟩ := hq; exact ihy K env' H' ρ' F' a w h2 h1
    | exit i => exact hq
    | ret => exact hq
    | goto l => exact hq
    | panic ch => exact hq
    | outgrown => exact hq
  | cond c x y ihx ihy =>
    intro K env H ρ F a w h hs
    have h : (match ev env c with
      | .ext (.bool t) => br t (ex cfg cx x env H K) (ex cfg cx y env H K)
      | _ => False) := h
    split at h
    · rename_i t ht
      have hc := REnv.ev hs.st.env c
      rw [ht] at hc
      have hc := den_ext hc
      refine wp_cond hc ?_
      rcases br_elim h with ⟨rfl, h⟩ | ⟨rfl, h⟩
      · exact ihx K env H ρ F a w h hs
      · exact ihy K env H ρ F a w h hs
    · exact h.elim
  | block id x ih =>
    intro K env H ρ F a w h hs
    refine wp_block (wp_mono (ih _ env H ρ F a w h hs) (fun e a w hq => ?_))
    cases e with
    | normal =>
      obtain ⟨ρ', F', env', H', h1, h2⟩ := hq
      obtain ⟨ρ2, F2, env2, H2, g1, g2⟩ := gcO_sound hp h2 h1
      exact ⟨ρ2, F2, env2, H2, g2, g1⟩
    | exit i =>
      obtain ⟨ρ', F', env', H', h1, h2⟩ := hq
      simp only [Exit.inBlock]
      have h2 : bif Nat.beq i id then gcO cx.pins (cfg.keepB id) env' H' (K .normal) else K (.exit i) env' H' := h2
      cases hi : Nat.beq i id with
      | true =>
        rw [hi] at h2
        have e := Nat.eq_of_beq_eq_true hi
        rw [if_pos e]
        obtain ⟨ρ2, F2, env2, H2, g1, g2⟩ := gcO_sound hp h2 h1
        exact ⟨ρ2, F2, env2, H2, g2, g1⟩
      | false =>
        rw [hi] at h2
        have hne : i ≠ id := fun e => by subst e; simp at hi
        rw [if_neg hne]
        exact ⟨ρ', F', env', H', h1, h2⟩
    | ret => exact hq
    | goto l => exact hq
    | panic ch => exact hq
    | outgrown => exact hq
  | scope x ih =>
    intro K env H ρ F a w h hs
    refine wp_scope_straight (wp_mono (ih _ env H ρ F a w h hs) (fun e a w hq => ?_))
    cases e <;> exact hq
  | loop x ih =>
    intro K env H ρ F a w h hs
    obtain ⟨ρ1, F1, env1, H1, g0, g2⟩ := gcO_sound hp (h : gcO cx.pins (cfg.keep (firstRegion x)) env H _) hs
    have g0' : LoopQ x (ex cfg cx x) (gcO cx.pins (cfg.keep (firstRegion x))) env1 H1 K := by
      revert g0
      cases cfg.unroll (firstRegion x) with
      | none => exact id
      | some n => exact fun h => ⟨n, h⟩
    clear g0
    obtain ⟨n, g1⟩ := g0'
    refine wp_loop_rounds n ?_
    clear h hs
    induction n generalizing env1 H1 ρ1 F1 a w with
    | zero => exact g1.elim
    | succ n ihn =>
      rw [rounds_succ]
      refine wp_mono (ih _ env1 H1 ρ1 F1 a w g1 g2) (fun e a w hq => ?_)
      cases e with
      | normal =>
        obtain ⟨ρ', F', env', H', h1, h2⟩ := hq
        obtain ⟨ρ2, F2, env2, H2, q1, q2⟩ := gcO_sound hp (h2 : gcO cx.pins (cfg.keep (firstRegion x)) env' H' _) h1
        exact ihn a w ρ2 F2 env2 H2 q2 q1
      | exit i => exact hq
      | ret => exact hq
      | goto l => exact hq
      | panic ch => exact hq
      | outgrown => exact hq
theorem resV_sound {env : Env} {a : Act} : ∀ (rs : List ResultVar) (tys : List TypeId) (H : Heap) (ρ : List Value) (F : Nat → List Nat) {vs : List V} {H' : Heap}, resV cfg env H rs tys = some (vs, H') → (∀ t, Rel ρ (env t) (a.tmps.getD t undef)) → Sat cfg.elT ρ F H w →
    ∃ ρ' F' xs, RelL ρ' vs xs ∧ Step cfg none ρ F H w ρ' F' H' w ∧ xs.length = rs.length ∧
      (rs.mapM fun r => (match r with | .tmp t => pure (a.tmps.getD t undef) | .cell c t => do loadVar t (← asAddr (a.tmps.getD c undef)) : Sem Value)).run cfg.P w = .ok xs w
  | [], [], H, ρ, F, vs, H', h, hE, hs => by
    simp only [resV, Option.some.injEq, Prod.mk.injEq] at h
    obtain ⟨rfl, rfl⟩ := h
    exact ⟨ρ, F, [], trivial, .refl hs, rfl, by simp⟩
  | [], _ :: _, H, ρ, F, vs, H', h, hE, hs => by simp [resV] at h
  | .tmp t :: r, [], H, ρ, F, vs, H', h, hE, hs => by simp [resV] at h
  | .cell c t :: r, [], H, ρ, F, vs, H', h, hE, hs => by simp [resV] at h
  | .cell c t :: r, ty :: tys, H, ρ, F, vs, H', h, hE, hs => by
    simp only [resV] at h
    split at h
    · rename_i v vs1 H2 h1 h2
      simp only [Option.some.injEq, Prod.mk.injEq] at h
      obtain ⟨rfl, rfl⟩ := h
      have hl : loadV cfg none H t (env c) (fun u => u = v) := by
        unfold cellV at h1
        unfold loadV
        split at h1
        · rename_i i b o hi hx
          rw [hi, hx]
          simp only
          split at h1
          · rename_i T cs hH
            try rw [hH]
            simp only [mayRead, cond_true]
            cases hd : isAggD i.desc with
            | true =>
              rw [hd] at h1
              simp only [cond_true] at h1 ⊢
              cases hb : Nat.ble (o + i.size) cs.length with
              | true => rw [hb] at h1; injection h1
              | false => rw [hb] at h1; cases h1
            | false =>
              rw [hd] at h1
              simp only [cond_false] at h1 ⊢
              rw [h1]
          · cases h1
        · cases h1
      obtain ⟨u, x, rfl, hx, hrun⟩ := loadV_sound hl (hE c) (hs.reads none)
      obtain ⟨ρ2, F2, xs, g2, st2, g3, g4⟩ := resV_sound r tys H ρ F h2 hE hs
      refine ⟨ρ2, F2, x :: xs, ⟨hx.le st2.le, g2⟩, st2, by simp [g3], ?_⟩
      rw [List.mapM_cons, Sem.run_bind]
      have e : (do loadVar t (← asAddr (a.tmps.getD c undef)) : Sem Value).run cfg.P w = .ok x w := by
        have h3 := hrun w (hs.reads none)
        have hp : ∃ b o, env c = .ptr b o := by
          unfold cellV at h1
          split at h1
          · exact ⟨_, _, by assumption⟩
          · cases h1
        obtain ⟨b, o, hp⟩ := hp
        obtain ⟨g, _, hg⟩ := den_ptr (hp ▸ hE c)
        rw [hg] at h3 ⊢
        simpa [Instr.loadAt, Instr.sureAddr, asAddr] using h3
      rw [e]
      simp only [Result.andThen_ok, Sem.run_bind, g4, Sem.run_pure]
    · cases h
  | .tmp t :: r, ty :: tys, H, ρ, F, vs, H', h, hE, hs => by
    simp only [resV] at h
    cases h1 : rowify H (cfg.tagOf ty) (env t) with
    | mk v1 H1 =>
    rw [h1] at h
    simp only at h
    cases h2 : resV cfg env H1 r tys with
    | none => rw [h2] at h; cases h
    | some p =>
      obtain ⟨vs1, H2⟩ := p
      rw [h2] at h
      simp only [Option.some.injEq, Prod.mk.injEq] at h
      obtain ⟨rfl, rfl⟩ := h
      obtain ⟨ρ1, F1, g1, st1⟩ := rowify_sound (lk := none) h1 (hE t) hs
      obtain ⟨ρ2, F2, xs, g2, st2, g3, g4⟩ := resV_sound r tys H1 ρ1 F1 h2 (fun t => (hE t).le st1.le) st1.sat
      refine ⟨ρ2, F2, a.tmps.getD t undef :: xs, ⟨g1.le st2.le, g2⟩, st1.trans st2, by simp [g3], ?_⟩
      rw [List.mapM_cons, Sem.run_bind]
      simp only [Sem.run_pure, Result.andThen_ok, Sem.run_bind, g4]
theorem one_rel : ∀ {vs : List V} {xs : List Value}, RelL ρ vs xs → (∀ v ∈ vs, vs.length ≠ 1 → v ≠ .junk) → Rel ρ (one vs) (if h : xs.length = 1 then xs[0] else .tuple xs.toArray)
  | [], [], _, _ => .inr (by simp [one, V.den, denL])
  | [v], [x], h, _ => by simpa [one] using h.1
  | v :: v2 :: r, x :: x2 :: xs, h, hj => by
    have hl : ∀ (ws : List V) (ys : List Value), RelL ρ ws ys → (∀ v ∈ ws, v ≠ .junk) → denL ρ ws = some ys := by
      intro ws
      induction ws with
      | nil => intro ys h _; cases ys with
        | nil => rfl
        | cons _ _ => exact h.elim
      | cons u ws ih => intro ys h hj; cases ys with
        | nil => exact h.elim
        | cons y ys => simp only [denL, h.1.den (hj u (by simp)), ih ys h.2 (fun v hv => hj v (by simp [hv]))]
    have hd := hl _ _ h (fun v hv => hj v hv (by simp))
    refine .inr ?_
    simp only [one, V.den, hd]
    simp
  | [_], [], h, _ => h.elim
  | [], _ :: _, h, _ => h.elim
  | [_], _ :: _ :: _, h, _ => h.2.elim
  | _ :: _ :: _, [], h, _ => h.elim
  | _ :: _ :: _, [_], h, _ => h.2.elim
theorem results_run {fn : Func} {tmps : Array Value} {xs : List Value} {P : Program} (hl : xs.length = fn.results.toList.length)
    (h : (fn.results.toList.mapM fun r => (match r with | .tmp t => pure (tmps.getD t undef) | .cell c t => do loadVar t (← asAddr (tmps.getD c undef)) : Sem Value)).run P w = .ok xs w) :
    (results fn tmps).run P w = .ok (if h : xs.length = 1 then xs[0] else .tuple xs.toArray) w := by
  have hm : ∀ f : ResultVar → Sem Value, (∀ r, f r = (match r with | .tmp t => pure (tmps.getD t undef) | .cell c t => do loadVar t (← asAddr (tmps.getD c undef)) : Sem Value)) →
      (fn.results.mapM f).run P w = .ok xs.toArray w := by
    intro f hf
    have e : fn.results = fn.results.toList.toArray := by simp
    have hff : f = fun r => (match r with | .tmp t => pure (tmps.getD t undef) | .cell c t => do loadVar t (← asAddr (tmps.getD c undef)) : Sem Value) := funext hf
    rw [e, List.mapM_toArray, hff, map_eq_pure_bind, Sem.run_bind, h]
    rfl
  unfold results
  rw [Sem.run_bind, hm _ (fun r => by cases r <;> rfl)]
  simp only [Result.andThen_ok, Sem.run_pure]
  congr 1
theorem argEnv_rel {args : List V} {vals : List Value} (h : denL ρ args = some vals) (n t : Nat) : Rel ρ (argEnv args t) ((vals.toArray ++ Array.replicate n undef).getD t undef) := by
  unfold argEnv
  have hl := denL_len h
  cases ht : args[t]? with
  | some v =>
    obtain ⟨x, h1, h2⟩ := denL_get h t v ht
    have htl : t < vals.length := (List.getElem?_eq_some_iff.1 h1).1
    refine .inr ?_
    rw [h2]
    congr 1
    simp [Array.getD_eq_getD_getElem?, Array.getElem?_append, htl]
    rw [List.getElem?_eq_getElem htl] at h1
    injection h1 with h1
    exact h1.symm
  | none =>
    refine .inr ?_
    simp only [V.den]
    congr 1
    have htl : ¬ t < vals.length := by
      intro h'
      rw [List.getElem?_eq_getElem (by omega)] at ht; cases ht
    simp only [Array.getD_eq_getD_getElem?, Array.getElem?_append, List.size_toArray, htl, if_false, Array.getElem?_replicate]
    split <;> rfl
theorem ret_sound {fn : Func} {args : List V} {H : Heap} {K : V → Heap → Prop} {ρ : List Value} {F : Nat → List Nat} {w w' : World} (hsat : Sat cfg.elT ρ F H w) {e : Ex} {ρ1 : List Value} {F1 : Nat → List Nat} {env1 : Env} {H1 : Heap} {a' : Act}
    (hs1 : St0 cfg (cxOf fn args H) ds ρ F H w ρ1 F1 env1 H1 a' w') (hr : retK cfg fn H.length K e env1 H1) :
    ∃ v, (results fn a'.tmps).run cfg.P w' = .ok v w' ∧ ∃ v' x ρ' F' H', Ending.returned v = .returned x ∧ K v' H' ∧ Rel ρ' v' x ∧ Le ρ ρ' ∧ Sat cfg.elT ρ' F' H' w' ∧ Fr H F w H' F' w' := by
  have hr : match resV cfg env1 H1 fn.results.toList fn.resultTypes.toList with
      | none => False
      | some (vs, H2) =>
        match renL (idx (reach H2 3 (addNew (List.range H.length) (idsL vs)))) vs, sel H2 (idx (reach H2 3 (addNew (List.range H.length) (idsL vs)))) (reach H2 3 (addNew (List.range H.length) (idsL vs))) with
        | some vs', some H3 => bif nodup (reach H2 3 (addNew (List.range H.length) (idsL vs))) && noJunk vs' then K (one vs') H3 else False
        | _, _ => False := by
    cases e with
    | exit i => exact hr.elim
    | normal => exact hr
    | ret => exact hr
  split at hr
  · exact hr.elim
  · rename_i vs H2 hres
    obtain ⟨ρ2, F2, xs, g1, st2, g3, g4⟩ := resV_sound (w := w') _ _ H1 ρ1 F1 hres hs1.st.env hs1.st.sat
    generalize hids : reach H2 3 (addNew (List.range H.length) (idsL vs)) = ids at hr
    split at hr
    · rename_i vs' H3 hren hsel
      have hcd := cond_elim hr
      have hc1 := hcd.1
      simp only [Bool.and_eq_true] at hc1
      obtain ⟨ρ3, F3, q1, q2, q3, q4⟩ := regroup st2.sat hsel hc1.1
      have hrel := renL_rel q1 hren g1
      refine ⟨_, results_run g3 g4, one vs', _, ρ3, F3, H3, rfl, hcd.2, one_rel hrel (fun v hv _ => ?_), fun i x hx => ?_, q3, (hs1.fr.trans st2.fr).trans q4⟩
      · rintro rfl
        have : ∀ ws : List V, V.junk ∈ ws → noJunk ws = true → False := by
          intro ws
          induction ws with
          | nil => intro h _; cases h
          | cons u ws ih =>
            intro hm hn
            rcases List.mem_cons.1 hm with e | hm
            · subst e; simp [noJunk] at hn
            · refine ih hm ?_
              cases u <;> simp_all [noJunk]
        exact this _ hv hc1.2
      · have hil : i < H.length := by rw [← hsat.len]; exact (List.getElem?_eq_some_iff.1 hx).1
        have hpre : ids[i]? = some i := by
          obtain ⟨r1, e1⟩ := addNew_prefix (idsL vs) (List.range H.length)
          obtain ⟨r2, e2⟩ := reach_prefix H2 3 (addNew (List.range H.length) (idsL vs))
          rw [← hids, e2, e1, List.append_assoc, List.getElem?_append_left (by simpa using hil)]
          exact range_get _ _ hil
        rw [q2 i i hpre]
        have hpi := hs1.pins i hil
        rw [hx] at hpi
        exact st2.le i x hpi
    · exact hr.elim
theorem wp_of_exF (ok : CfgOK cfg) (hsig : ∀ g s, cfg.sigs g = some s → SpecOK cfg.P cfg.elT g s) {fn : Func} {c : Code} (hc : fn.body = some c) {args : List V} {H : Heap} {K : V → Heap → Prop} (hex : exF cfg fn args H K)
    {ρ : List Value} {F : Nat → List Nat} {w : World} {vals : List Value} (hden : denL ρ args = some vals) (hsat : Sat cfg.elT ρ F H w) :
    c.wp cfg.P (bodyPost cfg.P fn fun e w' => ∃ v x ρ' F' H', e = .returned x ∧ K v H' ∧ Rel ρ' v x ∧ Le ρ ρ' ∧ Sat cfg.elT ρ' F' H' w' ∧ Fr H F w H' F' w') { tmps := vals.toArray ++ Array.replicate (fn.ntmps - vals.toArray.size) undef, defers := [] } w := by
  unfold exF at hex
  rw [hc] at hex
  simp only at hex
  have hlen := denL_len hden
  have hst : St cfg (cxOf fn args H).nt [] ρ F (argEnv args) H { tmps := vals.toArray ++ Array.replicate (fn.ntmps - vals.toArray.size) undef, defers := [] } w :=
    ⟨argEnv_rel hden _, by simp [cxOf, hlen], rfl, hsat⟩
  have hs0 : St0 cfg (cxOf fn args H) [] ρ F H w ρ F (argEnv args) H { tmps := vals.toArray ++ Array.replicate (fn.ntmps - vals.toArray.size) undef, defers := [] } w :=
    ⟨hst, Fr.refl, fun _ _ => rfl⟩
  have hp : (cxOf fn args H).pins ≤ ρ.length := by rw [hsat.len]; exact Nat.le_refl _
  have hwp := y40 ok hsig hp c _ (argEnv args) H ρ F _ w hex hs0
  refine wp_mono hwp (fun e a' w' hq => ?_)
  have fin : ∀ (e : Ex) (ρ1 : List Value) (F1 : Nat → List Nat) (env1 : Env) (H1 : Heap), St0 cfg (cxOf fn args H) [] ρ F H w ρ1 F1 env1 H1 a' w' → retK cfg fn H.length K e env1 H1 →
      a'.defers = [] ∧ ∃ v, (results fn a'.tmps).run cfg.P w' = .ok v w' ∧ ∃ v' x ρ' F' H', Ending.returned v = .returned x ∧ K v' H' ∧ Rel ρ' v' x ∧ Le ρ ρ' ∧ Sat cfg.elT ρ' F' H' w' ∧ Fr H F w H' F' w' :=
    fun e ρ1 F1 env1 H1 hs1 hr => ⟨hs1.st.defers, ret_sound hsat hs1 hr⟩
  cases e with
  | normal => obtain ⟨ρ1, F1, env1, H1, h1, h2⟩ := hq; exact fin _ ρ1 F1 env1 H1 h1 h2
  | ret => obtain ⟨ρ1, F1, env1, H1, h1, h2⟩ := hq; exact fin _ ρ1 F1 env1 H1 h1 h2
  | exit i => obtain ⟨ρ1, F1, env1, H1, h1, h2⟩ := hq; exact h2.elim
  | goto l => exact hq.elim
  | panic ch => exact hq.elim
  | outgrown => exact hq.elim
theorem spec_of_exF (ok : CfgOK cfg) (hsig : ∀ g s, cfg.sigs g = some s → SpecOK cfg.P cfg.elT g s) {g : FuncId} {fn : Func} {s : Spec} (hg : cfg.P.funcs[g]? = some fn) (hname : (fn.name == "runtime.NumGoroutine") = false) (hb : fn.body.isNone = false)
    (h : ∀ (args : List V) (H : Heap) (K : V → Heap → Prop), s.tr args H K → exF cfg fn args H K) : SpecOK cfg.P cfg.elT g s := by
  refine ⟨⟨fn, hg, hname, hb⟩, fun args H K htr ρ F w vals hden hsat => ?_⟩
  have hex := h args H K htr
  cases hc : fn.body with
  | none => rw [hc] at hb; cases hb
  | some c => exact calls_of_wp hg hc (wp_of_exF ok hsig hc hex hden hsat)
theorem loop_ind {cfg : Cfg} {cx : Cx} {c : Code} {K : Ex → Env → Heap → Prop} {σ : Type} (E : σ → Env) (Hp : σ → Heap) (I : σ → Prop) (μ : σ → Nat)
    (round : ∀ s, I s → ∀ J : Env → Heap → Prop, (∀ s', I s' → μ s' < μ s → J (E s') (Hp s')) → ex cfg cx c (E s) (Hp s) (roundK cfg cx c K J)) (s : σ) (hs : I s) : Loop cfg cx c (E s) (Hp s) K := by
  have key : ∀ n s, I s → μ s ≤ n → loopM c (ex cfg cx c) (gcO cx.pins (cfg.keep (firstRegion c))) K (n + 1) (E s) (Hp s) := by
    intro n
    induction n with
    | zero =>
      intro s hs hm
      exact round s hs _ (fun s' _ h => by omega)
    | succ n ih =>
      intro s hs hm
      exact round s hs _ (fun s' hs' h => ih s' hs' (by omega))
  exact ⟨_, key (μ s) s hs (Nat.le_refl _)⟩
end Go.Rx
end

section
namespace Go.Rx
theorem br_false {b : Bool} {A B : Prop} (hb : b = false) (h : B) : br b A B := by subst hb; exact h
theorem br_intro {b : Bool} {A B : Prop} (h1 : b = true → A) (h2 : b = false → B) : br b A B := by
  cases b with
  | true => exact h1 rfl
  | false => exact h2 rfl
theorem Req_intro {b : Bool} {A : Prop} (hb : b = true) (h : A) : Req b A := by subst hb; exact h
theorem inR_nat {i n : Nat} (h : i < n) : inR (i : Int) n = true := by simp [inR]; omega
theorem inR_int {i : Int} {n : Nat} (h0 : 0 ≤ i) (h : i < (n : Int)) : inR i n = true := by simp [inR]; omega
theorem wrap_id {x : Int} (h0 : -9223372036854775808 ≤ x) (h1 : x ≤ 9223372036854775807) : IntKind.i64.wrap x = x := by rw [IntKind.wrap_i64]; omega
theorem wrap_succ {i : Nat} (h : i ≤ 4611686018427387904) : IntKind.i64.wrap ((i : Int) + 1) = ((i + 1 : Nat) : Int) := by rw [wrap_id (by omega) (by omega)]; omega
theorem tag_ok {P : Program} {elT : ET} {t tg : Nat} (h1 : P.underlying t = some (.slice (elT tg))) (h2 : P.info? (elT tg) = some ((P.info? (elT tg)).getD default))
    (h3 : ((P.info? (elT tg)).getD default).zero = some (((P.info? (elT tg)).getD default).zero.getD undef)) (h4 : (((P.info? (elT tg)).getD default).zero.getD undef).cells = (elEnc tg (elD tg)).toArray)
    (h5 : ((P.info? (elT tg)).getD default).size = elM tg) (h6 : Nat.ble ((P.info? (elT tg)).getD default).bytes 65536 = true) :
    P.underlying t = some (.slice (elT tg)) ∧ ∃ i z, P.info? (elT tg) = some i ∧ i.zero = some z ∧ z.cells = (elEnc tg (elD tg)).toArray ∧ i.size = elM tg ∧ i.bytes ≤ 65536 :=
  ⟨h1, _, _, h2, h3, h4, h5, Nat.le_of_ble_eq_true h6⟩
def icV (n o : Nat) (xs : List Int) : List V := (List.range n).map fun i => vi (xs.getD (o + i) 0)
def mkA : List Nat → Nat → List Int → List V
  | [], _, _ => []
  | 0 :: sh, o, xs => vi (xs.getD o 0) :: mkA sh (o + 1) xs
  | (k + 1) :: sh, o, xs => .agg (icV (k + 1) o xs) :: mkA sh (o + (k + 1)) xs
theorem spec_mono {P : Program} {elT : ET} {g : FuncId} {s1 s2 : Spec} (h : ∀ (args : List V) (H : Heap) (K : V → Heap → Prop), s2.tr args H K → s1.tr args H K) (ok : SpecOK P elT g s1) : SpecOK P elT g s2 :=
  ⟨ok.1, fun args H K ht => ok.2 args H K (h args H K ht)⟩
end Go.Rx
end

section
namespace Go.Rx
variable {P : Program} {elT : ET} {ρ : List Value} {F : Nat → List Nat} {H : Heap} {w : World}
def isPk : Blk → Bool
  | .pk _ _ _ _ => true
  | _ => false
theorem holds0_of {b : Blk} {v : Value} {G : List Nat} (hb : isPk b = false) (h : b.holds elT ρ w v G) : b.holds0 elT ρ w v G := by
  cases b <;> first | exact h | cases hb
theorem Sat0.to (h : Sat0 elT ρ F H w) : Sat elT ρ F H w :=
  ⟨h.len, fun i b x hb hx => Blk.holds_of (h.each i b x hb hx), h.lt, h.disj⟩
def AbsOK (elT : ET) : Prop := ∀ tg st Hc, elT.abs tg st Hc → (∀ b ∈ Hc, isPk b = false ∧ (b.writable = true ∨ b = .dead)) ∧ Hc[2]? = some .dead
def only0 (i : Nat) : Option Nat := bif Nat.beq i 0 then some 0 else none
def noRef (_ : Nat) : Option Nat := none
theorem val2 {ρ : List Value} (h : ρ.length = 2) : ∃ x y, ρ = [x, y] := by
  match ρ, h with
  | [x, y], _ => exact ⟨x, y, rfl⟩
theorem spec_open {g : FuncId} {s sc : Spec} (ha : AbsOK elT) (hc : SpecOK P elT g sc)
    (h : ∀ (args : List V) (H : Heap) (K : V → Heap → Prop), s.tr args H K → ∃ tg st xs t l, H = [.pk tg st xs [.row 1], .row t l true] ∧ xs.length ≤ 2 ∧ renL only0 args = some args ∧
      ∀ Hc, elT.abs tg st Hc → sc.tr args (Hc.set 2 (.row t l true)) (fun v H' => ∃ st' Hc' ids, v.ren noRef = some v ∧ elT.abs tg st' Hc' ∧ nodup ids = true ∧ (∀ i, i < 3 → ids[i]? = some i) ∧ sel H' (idx ids) ids = some (Hc'.set 2 (.row t l true)) ∧ K v [.pk tg st' xs [.row 1], .row t l true])) :
    SpecOK P elT g s := by
  refine ⟨hc.1, fun args H K htr ρ F w vals hden hsat => ?_⟩
  obtain ⟨tg, st, xs, t, l, rfl, hxs, harg, hK⟩ := h args H K htr
  obtain ⟨x0, xw, rfl⟩ := val2 hsat.len
  obtain ⟨Hc, ρc, Fc, zs, a1, a2, a3, a4, a5, a6, a7⟩ := hsat.each 0 _ x0 rfl rfl
  have hrow := hsat.each 1 _ xw rfl rfl
  obtain ⟨hall, h2⟩ := ha tg st Hc a1
  have hz : zs = [xw] := by
    have hd : V.den [x0, xw] (.row 1) = some xw := by
      obtain ⟨a, cap, e, _⟩ := hrow
      subst e; rfl
    simp only [denL, hd, Option.some.injEq] at a6
    exact a6.symm
  subst hz
  have hρ2 : ρc[2]? = some xw := a7 0 xw rfl
  have h2lt : 2 < Hc.length := (List.getElem?_eq_some_iff.1 h2).1
  have hget : ∀ (i : Nat) (b : Blk), (Hc.set 2 (.row t l true))[i]? = some b → (i = 2 ∧ b = .row t l true) ∨ (i ≠ 2 ∧ Hc[i]? = some b) := fun i b hb => by
    rw [List.getElem?_set] at hb
    split at hb
    · rename_i e; subst e; simp [h2lt] at hb; exact .inl ⟨rfl, hb.symm⟩
    · rename_i e; exact .inr ⟨fun h => e h.symm, hb⟩
  have hlen : ∀ (i : Nat) (b : Blk), Hc[i]? = some b → i < Hc.length := fun i b hb => (List.getElem?_eq_some_iff.1 hb).1
  have hdis : ∀ n ∈ F 0, n ∉ F 1 := hsat.disj 0 1 _ _ rfl rfl (by decide) rfl
  have hF0 : ∀ (i n : Nat) (b : Blk), Hc[i]? = some b → n ∈ Fc i → n ∈ F 0 := fun i n b hb hn => by rw [a4]; exact mem_foot (hlen i b hb) hn
  have hs2 : Sat elT ρc (fset Fc 2 (F 1)) (Hc.set 2 (.row t l true)) w := by
    refine ⟨by rw [List.length_set]; exact a2.len, fun i b x hb hx => ?_, fun i b hb n hn => ?_, fun i j bi bj hbi hbj hij hw n hn => ?_⟩
    · rcases hget i b hb with ⟨rfl, rfl⟩ | ⟨hi, hb⟩
      · rw [hρ2] at hx; injection hx with hx; subst hx
        simp only [fset, if_true]
        exact hrow
      · simp only [fset, hi, if_false]
        exact Blk.holds_of (a2.each i b x hb hx)
    · rcases hget i b hb with ⟨rfl, rfl⟩ | ⟨hi, hb⟩
      · simp only [fset, if_true] at hn
        exact hsat.lt 1 _ rfl n hn
      · simp only [fset, hi, if_false] at hn
        exact a2.lt i b hb n hn
    · rcases hget i bi hbi with ⟨rfl, rfl⟩ | ⟨hi, hbi⟩
      · cases hw
      · simp only [fset, hi, if_false] at hn
        rcases hget j bj hbj with ⟨rfl, rfl⟩ | ⟨hj, hbj⟩
        · simp only [fset, if_true]
          exact hdis n (hF0 i n bi hbi hn)
        · simp only [fset, hj, if_false]
          exact a2.disj i j bi bj hbi hbj hij hw n hn
  have hden' : denL ρc args = some vals := by
    rw [renL_den (ρ := [x0, xw]) (ρ' := ρc) (f := only0) (fun i j h => by
      unfold only0 at h
      cases hi : Nat.beq i 0 with
      | false => rw [hi] at h; cases h
      | true =>
        rw [hi] at h
        have := Nat.eq_of_beq_eq_true hi
        subst this
        injection h with h; subst h
        exact a3) args args harg]
    exact hden
  refine (hc.2 args _ _ (hK Hc a1) ρc _ w vals hden' hs2).mono ?_
  rintro e w' ⟨v, x, ρ1, F1, H1, rfl, ⟨st', Hc', ids, v1, v2, v3, v5, v6, v4⟩, hrel, hle1, hsat1, hfr1⟩
  let cfg : Cfg := { P := P, tagOf := fun _ => none, elT := elT, sigs := fun _ => none, keep := fun _ => none, keepB := fun _ => none, plan := fun _ => none }
  obtain ⟨ρ', F', _, q2, hsat', hfr2⟩ := regroup (cfg := cfg) hsat1 v6 v3
  have hfr := hfr1.trans hfr2
  have hle : ∀ i x, i < 3 → ρc[i]? = some x → ρ'[i]? = some x := fun i x hi hx => by rw [q2 i i (v5 i hi)]; exact hle1 i x hx
  obtain ⟨hall', h2'⟩ := ha tg st' Hc' v2
  have h2lt' : 2 < Hc'.length := (List.getElem?_eq_some_iff.1 h2').1
  have hset : ∀ (i : Nat) (b : Blk), i ≠ 2 → Hc'[i]? = some b → (Hc'.set 2 (.row t l true))[i]? = some b := fun i b hi hb => by rw [List.getElem?_set_ne (Ne.symm hi)]; exact hb
  have hsmall : ∀ n ∈ F 1, n < w.heap.size := hsat.lt 1 _ rfl
  have hkeep : ∀ n ∈ F 1, w'.heap[n]? = w.heap[n]? := fun n hn => hfr.block n (hsmall n hn) (fun i b hb hw hm => by
    rcases hget i b hb with ⟨rfl, rfl⟩ | ⟨hi, hb⟩
    · cases hw
    · simp only [fset, hi, if_false] at hm
      exact hdis n (hF0 i n b hb hm) hn)
  have hours : ∀ (i : Nat) (b : Blk) (n : Nat), i ≠ 2 → Hc'[i]? = some b → n ∈ F' i → w.heap.size ≤ n ∨ n ∈ F 0 := fun i b n hi hb hn => by
    rcases (hall' b (List.mem_of_getElem? hb)).2 with hw | hd
    · rcases hfr.foot i b (hset i b hi hb) hw n hn with h | ⟨j, c, hcj, hcw, hm⟩
      · exact .inl h
      · rcases hget j c hcj with ⟨rfl, rfl⟩ | ⟨hj, hcj⟩
        · cases hcw
        · simp only [fset, hj, if_false] at hm
          exact .inr (hF0 j n c hcj hm)
    · subst hd
      have hil : i < ρ'.length := by rw [hsat'.len, List.length_set]; exact (List.getElem?_eq_some_iff.1 hb).1
      have : F' i = [] := hsat'.each i _ _ (hset i _ hi hb) (List.getElem?_eq_getElem hil)
      rw [this] at hn; cases hn
  have hfoot : ∀ n ∈ foot (fset F' 2 []) Hc'.length, ∃ i b, i ≠ 2 ∧ Hc'[i]? = some b ∧ n ∈ F' i := fun n hn => by
    obtain ⟨i, hi, hm⟩ := foot_mem hn
    by_cases e : i = 2
    · subst e; simp only [fset, if_true] at hm; cases hm
    · simp only [fset, e, if_false] at hm
      exact ⟨i, _, e, List.getElem?_eq_getElem hi, hm⟩
  refine ⟨v, x, [x0, xw], fset F 0 (foot (fset F' 2 []) Hc'.length), _, rfl, v4, ?_, Le.refl _, ⟨rfl, fun i b y hb hy => ?_, fun i b hb n hn => ?_, fun i j bi bj hbi hbj hij hw n hn => ?_⟩, ⟨hfr.os, hfr.tape, hfr.output, hfr.size, fun n hn hno => ?_, fun i b hb hw n hn => ?_, fun i b hb n hn => ?_⟩⟩
  · rcases hrel with e | e
    · exact .inl e
    · refine .inr ?_
      rw [← e]
      exact (ren_den (ρ := [x0, xw]) (ρ' := ρ1) (f := noRef) (fun i j h => by cases h) v v v1).symm
  · match i, hb with
    | 0, hb =>
      injection hb with hb; subst hb
      simp only [List.getElem?_cons_zero, Option.some.injEq] at hy; subst hy
      simp only [fset, if_true]
      refine ⟨Hc', ρ', fset F' 2 [], [xw], v2, ⟨by have := hsat'.len; rwa [List.length_set] at this, fun i b y hb hy => ?_, fun i b hb n hn => ?_, fun i j bi bj hbi hbj hij hw n hn => ?_⟩, hle 0 _ (by omega) a3, rfl, fun k z hk => hle _ _ (by have := (List.getElem?_eq_some_iff.1 hk).1; omega) (a5 k z hk), ?_, fun k z hk => ?_⟩
      · by_cases e : i = 2
        · subst e
          rw [h2'] at hb; injection hb with hb; subst hb
          simp only [fset, if_true]
          exact rfl
        · simp only [fset, e, if_false]
          exact holds0_of (hall' b (List.mem_of_getElem? hb)).1 (hsat'.each i b y (hset i b e hb) hy)
      · by_cases e : i = 2
        · subst e; simp only [fset, if_true] at hn; cases hn
        · simp only [fset, e, if_false] at hn; exact hsat'.lt i b (hset i b e hb) n hn
      · by_cases e : i = 2
        · subst e; simp only [fset, if_true] at hn; cases hn
        · simp only [fset, e, if_false] at hn
          by_cases e' : j = 2
          · subst e'; simp only [fset, if_true]; simp
          · simp only [fset, e', if_false]
            exact hsat'.disj i j bi bj (hset i bi e hbi) (hset j bj e' hbj) hij hw n hn
      · have hd : V.den [x0, xw] (.row 1) = some xw := by
          obtain ⟨a, cap, e, _⟩ := hrow
          subst e; rfl
        simp only [denL, hd]
      · match k, hk with
        | 0, hk => injection hk with hk; subst hk; exact hle 2 _ (by omega) hρ2
        | k + 1, hk => cases hk
    | 1, hb =>
      injection hb with hb; subst hb
      simp only [List.getElem?_cons_succ, List.getElem?_cons_zero, Option.some.injEq] at hy; subst hy
      exact Blk.holds_le (Le.refl _) hkeep _ hrow
    | i + 2, hb => cases hb
  · match i, hb with
    | 0, hb =>
      simp only [fset, if_true] at hn
      obtain ⟨i, b, e, hb, hm⟩ := hfoot n hn
      exact hsat'.lt i b (hset i b e hb) n hm
    | 1, hb => exact Nat.lt_of_lt_of_le (hsmall n hn) hfr.size
    | i + 2, hb => cases hb
  · match i, j, hbi, hbj, hij with
    | 0, 0, _, _, h => exact absurd rfl h
    | 0, 1, _, _, _ =>
      simp only [fset, if_true] at hn
      obtain ⟨i, b, e, hb, hm⟩ := hfoot n hn
      show n ∉ F 1
      intro h1
      rcases hours i b n e hb hm with h | h
      · have := hsmall n h1; omega
      · exact hdis n h h1
    | 0, j + 2, _, hbj, _ => cases hbj
    | 1, _, hbi, _, _ => injection hbi with hbi; subst hbi; cases hw
    | i + 2, _, hbi, _, _ => cases hbi
  · exact hfr.block n hn (fun i b hb hw hm => by
      rcases hget i b hb with ⟨rfl, rfl⟩ | ⟨hi, hb⟩
      · cases hw
      · simp only [fset, hi, if_false] at hm
        exact hno 0 _ rfl rfl (hF0 i n b hb hm))
  · match i, hb with
    | 0, hb =>
      simp only [fset, if_true] at hn
      obtain ⟨i, b, e, hb, hm⟩ := hfoot n hn
      rcases hours i b n e hb hm with h | h
      · exact .inl h
      · exact .inr ⟨0, _, rfl, rfl, h⟩
    | 1, hb => injection hb with hb; subst hb; cases hw
    | i + 2, hb => cases hb
  · match i, hb with
    | 0, hb =>
      simp only [fset, if_true] at hn
      obtain ⟨i, b, e, hb, hm⟩ := hfoot n hn
      rcases hours i b n e hb hm with h | h
      · exact .inl h
      · exact .inr ⟨0, _, rfl, h⟩
    | 1, hb => exact .inr ⟨1, _, rfl, hn⟩
    | i + 2, hb => cases hb
end Go.Rx
end

section
namespace Go.Rx
def keyOf (e : List Int) : Int := e.getD 0 0
def valOf (e : List Int) : Int := e.getD 1 0
def lookI : List (List Int) → Int → Option Int
  | [], _ => none
  | e :: r, a => if keyOf e = a then some (valOf e) else lookI r a
structure ViewOK (ws cur : List Int) (m : Int → Option Int) (nd : List Pr) (its : List (List Int)) : Prop where
  small : ws.length ≤ 1048576
  len : cur.length = ws.length
  sorted : its.Pairwise (fun x y => keyOf x < keyOf y)
  keys : ∀ e ∈ its, 0 ≤ keyOf e ∧ keyOf e < (ws.length : Int)
  cur : ∀ i : Nat, i < ws.length → cur.getD i 0 = (lookI its (i : Int)).getD (ws.getD i 0)
  asked : ∀ p ∈ nd, (m p.Addr).getD 0 ≠ 0
  told : ∀ p ∈ nd, 0 ≤ p.Addr ∧ p.Addr < (ws.length : Int)
  once : nd.Pairwise (fun x y => x.Addr ≠ y.Addr)
theorem ViewOK.fresh {ws : List Int} (h : ws.length ≤ 1048576) (m : Int → Option Int) : ViewOK ws ws m [] [] :=
  ⟨h, rfl, .nil, by simp, fun i _ => rfl, by simp, by simp, .nil⟩
def viewHeap (f : FuncId) (b : Blk) (m : Int → Option Int) (n : Nat) (nd : List Pr) (its : List (List Int)) : Heap :=
  [.cells 0 [.mth f (.ptr 1 0), .ptr 3 0, vb true], .cells 0 [.row 2, .mp 4, .row 5], b, .cells 0 [.row 6], .map m n, .row 2 nd false, .row 5 its false]
def absView (f : FuncId) (tg : Nat) (st : List (List Int)) (Hc : Heap) : Prop :=
  match tg, st with
  | 0, [ws, cur] => ∃ m n nd its, Hc = viewHeap f .dead m n nd its ∧ ViewOK ws cur m nd its
  | _, _ => False
theorem absView_ok {elT : ET} {f : FuncId} (h : elT.abs = absView f) : AbsOK elT := by
  intro tg st Hc ha
  rw [h] at ha
  unfold absView at ha
  split at ha
  · obtain ⟨m, n, nd, its, rfl, _⟩ := ha
    refine ⟨fun b hb => ?_, rfl⟩
    simp only [viewHeap, List.mem_cons, List.not_mem_nil, or_false] at hb
    rcases hb with rfl | rfl | rfl | rfl | rfl | rfl | rfl <;> first | exact ⟨rfl, .inl rfl⟩ | exact ⟨rfl, .inr rfl⟩
  · exact ha.elim
def packS (f : FuncId) (s : Spec) : Spec where
  ro := false
  tr := fun (args : List V) (H : Heap) (K : V → Heap → Prop) => match (H[0]? : Option Blk) with
    | some (.cells _ [.mth f' (.ptr p 0), .ptr q 0, .ext (.bool true)]) => match H[p]?, H[q]? with
      | some (.cells _ [.row r, .mp a, .ext (.slice none 0 0)]), some (.cells _ [.ext (.slice none 0 0)]) => match H[r]?, H[a]? with
        | some (.row 0 ws true), some (.map _ _) => bif Nat.beq f' f && nodup [0, p, r, q, a] then Req (decide (List.length ws ≤ 1048576)) (∀ x : Value,
            callC s args ((((H.set 0 (.pk 0 [ws, ws] [x] [.row r])).set p .dead).set q .dead).set a .dead) none (fun v (H' : Heap) => match (H'[0]? : Option Blk), H'[p]? with
              | some (.pk 0 [ws', cur'] [x'] [.row r']), some .dead => bif Nat.beq r' r then x' = x ∧ ∀ m' n' nd' its', ViewOK ws' cur' m' nd' its' →
                  K v (((H'.set 0 (.cells 0 [.mth f (.ptr p 0), .ptr H'.length 0, vb true])).set p (.cells 0 [.row r, .mp (H'.length + 1), .row (H'.length + 2)])) ++
                    [.cells 0 [.row (H'.length + 3)], .map m' n', .row 2 nd' false, .row 5 its' false]) else False
              | _, _ => False)) else False
        | _, _ => False
      | _, _ => False
    | _ => False
variable {cfg : Cfg} {ρ : List Value} {F : Nat → List Nat} {H : Heap} {w : World}
theorem sat_pack {f : FuncId} (hE : cfg.elT.abs = absView f) {T0 T1 T2 : TypeId} {p q r a n : Nat} {ws : List Int} {m : Int → Option Int} (hs : Sat cfg.elT ρ F H w)
    (h0 : H[0]? = some (.cells T0 [.mth f (.ptr p 0), .ptr q 0, vb true])) (hp : H[p]? = some (.cells T1 [.row r, .mp a, .ext (.slice none 0 0)])) (hq : H[q]? = some (.cells T2 [.ext (.slice none 0 0)]))
    (hr : H[r]? = some (.row 0 ws true)) (ha : H[a]? = some (.map m n)) (hnd : nodup [0, p, r, q, a] = true) (hsm : ws.length ≤ 1048576) :
    ∃ x F', ρ[p]? = some x ∧ Sat cfg.elT ρ F' ((((H.set 0 (.pk 0 [ws, ws] [x] [.row r])).set p .dead).set q .dead).set a .dead) w ∧
      Fr H F w ((((H.set 0 (.pk 0 [ws, ws] [x] [.row r])).set p .dead).set q .dead).set a .dead) F' w := by
  have val : ∀ (i : Nat) (b : Blk), H[i]? = some b → ∃ x, ρ[i]? = some x ∧ b.holds cfg.elT ρ w x (F i) := fun i b hb => sat_val hs hb
  obtain ⟨x0, v0, b0, vs0, e0, f0, d0, U0, c0⟩ := val 0 _ h0
  obtain ⟨xp, vp, bp, vsp, ep, fp, dp, Up, cp⟩ := val p _ hp
  obtain ⟨xq, vq, bq, vsq, eq, fq, dq, Uq, cq⟩ := val q _ hq
  obtain ⟨xr, vr, hrr⟩ := val r _ hr
  obtain ⟨xa, va, ba, es, clock, ea, fa, ca, oa, na⟩ := val a _ ha
  have hne := fun i j (h : [0, p, r, q, a][i]? = [0, p, r, q, a][j]?) (hi : i < 5) => nodup_spec hnd i j
  have nn : 0 ≠ p ∧ 0 ≠ q ∧ 0 ≠ a ∧ 0 ≠ r ∧ p ≠ q ∧ p ≠ a ∧ p ≠ r ∧ q ≠ a ∧ r ≠ q ∧ r ≠ a := by
    simp only [nodup, mem, Bool.and_eq_true, Bool.not_eq_true', Bool.or_eq_false_iff] at hnd
    obtain ⟨⟨h1, h2, h3, h4, _⟩, ⟨h5, h6, h7, _⟩, ⟨h8, h9, _⟩, ⟨h10, _⟩, _⟩ := hnd
    have k : ∀ {x y : Nat}, Nat.beq x y = false → y ≠ x := fun {x y} h e => by subst e; simp at h
    exact ⟨k h1, k h3, k h4, k h2, k h6, k h7, k h5, k h10, k h8, k h9⟩
  obtain ⟨n1, n2, n3, n4, n5, n6, n7, n8, n9, n10⟩ := nn
  let Fc : Nat → List Nat := fun k => match k with | 0 => F 0 | 1 => F p | 3 => F q | 4 => F a | _ => []
  let ρc : List Value := [x0, xp, xr, xq, xa, .slice none 0 0, .slice none 0 0]
  have slice_r : ∃ ad len cap, xr = .slice ad len cap := by obtain ⟨ad, cap, e, _⟩ := hrr; exact ⟨ad, _, cap, e⟩
  obtain ⟨adr, lenr, capr, rfl⟩ := slice_r
  have hwr : ∀ (i : Nat), i = 0 ∨ i = p ∨ i = q ∨ i = a → ∃ b, H[i]? = some b ∧ b.writable = true := fun i hi => by
    rcases hi with rfl | rfl | rfl | rfl
    · exact ⟨_, h0, rfl⟩
    · exact ⟨_, hp, rfl⟩
    · exact ⟨_, hq, rfl⟩
    · exact ⟨_, ha, rfl⟩
  have hd : ∀ i j, (i = 0 ∨ i = p ∨ i = q ∨ i = a) → i ≠ j → j < H.length → ∀ n ∈ F i, n ∉ F j := fun i j hi hij hj => by
    obtain ⟨b, hb, hw⟩ := hwr i hi
    exact hs.disj i j b _ hb (List.getElem?_eq_getElem hj) hij hw
  have hlt : ∀ i (b : Blk), H[i]? = some b → i < H.length := fun i b hb => (List.getElem?_eq_some_iff.1 hb).1
  have sub : Sat0 cfg.elT ρc Fc (viewHeap f .dead m n [] []) w := by
    refine ⟨rfl, fun i b y hb hy => ?_, fun i b hb k hk => ?_, fun i j bi bj hbi hbj hij hw k hk => ?_⟩
    · match i, hb, hy with
      | 0, hb, hy =>
        injection hb with hb; subst hb; injection hy with hy; subst hy
        refine ⟨b0, vs0, e0, f0, ?_, U0, c0⟩
        rw [← d0]
        simp only [denL, V.den, vp, vq]
        rfl
      | 1, hb, hy =>
        injection hb with hb; subst hb; injection hy with hy; subst hy
        refine ⟨bp, vsp, ep, fp, ?_, Up, cp⟩
        rw [← dp]
        simp only [denL, V.den, vr, va]
        rfl
      | 2, hb, hy => injection hb with hb; subst hb; exact rfl
      | 3, hb, hy =>
        injection hb with hb; subst hb; injection hy with hy; subst hy
        refine ⟨bq, vsq, eq, fq, ?_, Uq, cq⟩
        rw [← dq]
        rfl
      | 4, hb, hy =>
        injection hb with hb; subst hb; injection hy with hy; subst hy
        exact ⟨ba, es, clock, ea, fa, ca, oa, na⟩
      | 5, hb, hy =>
        injection hb with hb; subst hb; injection hy with hy; subst hy
        exact ⟨World.ownsRow_nil _ _ _ _, rfl⟩
      | 6, hb, hy =>
        injection hb with hb; subst hb; injection hy with hy; subst hy
        exact ⟨World.ownsRow_nil _ _ _ _, rfl⟩
      | i + 7, hb, hy => cases hb
    · match i, hb with
      | 0, hb => exact hs.lt 0 _ h0 k hk
      | 1, hb => exact hs.lt p _ hp k hk
      | 2, hb => cases hk
      | 3, hb => exact hs.lt q _ hq k hk
      | 4, hb => exact hs.lt a _ ha k hk
      | 5, hb => cases hk
      | 6, hb => cases hk
      | i + 7, hb => cases hb
    · have P0 := hlt 0 _ h0; have Pp := hlt p _ hp; have Pq := hlt q _ hq; have Pa := hlt a _ ha
      match i, j, hij with
      | 0, 1, _ => exact hd 0 p (.inl rfl) n1 Pp k hk
      | 0, 3, _ => exact hd 0 q (.inl rfl) n2 Pq k hk
      | 0, 4, _ => exact hd 0 a (.inl rfl) n3 Pa k hk
      | 1, 0, _ => exact hd p 0 (.inr (.inl rfl)) (Ne.symm n1) P0 k hk
      | 1, 3, _ => exact hd p q (.inr (.inl rfl)) n5 Pq k hk
      | 1, 4, _ => exact hd p a (.inr (.inl rfl)) n6 Pa k hk
      | 3, 0, _ => exact hd q 0 (.inr (.inr (.inl rfl))) (Ne.symm n2) P0 k hk
      | 3, 1, _ => exact hd q p (.inr (.inr (.inl rfl))) (Ne.symm n5) Pp k hk
      | 3, 4, _ => exact hd q a (.inr (.inr (.inl rfl))) n8 Pa k hk
      | 4, 0, _ => exact hd a 0 (.inr (.inr (.inr rfl))) (Ne.symm n3) P0 k hk
      | 4, 1, _ => exact hd a p (.inr (.inr (.inr rfl))) (Ne.symm n6) Pp k hk
      | 4, 3, _ => exact hd a q (.inr (.inr (.inr rfl))) (Ne.symm n8) Pq k hk
      | 0, 0, h => exact absurd rfl h
      | 1, 1, h => exact absurd rfl h
      | 3, 3, h => exact absurd rfl h
      | 4, 4, h => exact absurd rfl h
      | 0, 2, _ => exact List.not_mem_nil
      | 0, 5, _ => exact List.not_mem_nil
      | 0, 6, _ => exact List.not_mem_nil
      | 1, 2, _ => exact List.not_mem_nil
      | 1, 5, _ => exact List.not_mem_nil
      | 1, 6, _ => exact List.not_mem_nil
      | 3, 2, _ => exact List.not_mem_nil
      | 3, 5, _ => exact List.not_mem_nil
      | 3, 6, _ => exact List.not_mem_nil
      | 4, 2, _ => exact List.not_mem_nil
      | 4, 5, _ => exact List.not_mem_nil
      | 4, 6, _ => exact List.not_mem_nil
      | 2, _, _ => cases hk
      | 5, _, _ => cases hk
      | 6, _, _ => cases hk
      | i + 7, _, _ => cases hbi
      | 0, j + 7, _ => cases hbj
      | 1, j + 7, _ => cases hbj
      | 3, j + 7, _ => cases hbj
      | 4, j + 7, _ => cases hbj
  have hfootc : ∀ k, k ∈ foot Fc 7 → ∃ i, (i = 0 ∨ i = p ∨ i = q ∨ i = a) ∧ k ∈ F i := fun k hk => by
    obtain ⟨i, hi, hm⟩ := foot_mem hk
    match i, hm with
    | 0, hm => exact ⟨0, .inl rfl, hm⟩
    | 1, hm => exact ⟨p, .inr (.inl rfl), hm⟩
    | 2, hm => cases hm
    | 3, hm => exact ⟨q, .inr (.inr (.inl rfl)), hm⟩
    | 4, hm => exact ⟨a, .inr (.inr (.inr rfl)), hm⟩
    | 5, hm => cases hm
    | 6, hm => cases hm
    | i + 7, _ => omega
  have hfootc' : ∀ i, (i = 0 ∨ i = p ∨ i = q ∨ i = a) → ∀ k ∈ F i, k ∈ foot Fc 7 := fun i hi k hk => by
    rcases hi with rfl | rfl | rfl | rfl
    · exact mem_foot (F := Fc) (i := 0) (by omega) hk
    · exact mem_foot (F := Fc) (i := 1) (by omega) hk
    · exact mem_foot (F := Fc) (i := 3) (by omega) hk
    · exact mem_foot (F := Fc) (i := 4) (by omega) hk
  let F' : Nat → List Nat := fun j => if j = 0 then foot Fc 7 else if j = p ∨ j = q ∨ j = a then [] else F j
  have hget : ∀ (j : Nat) (c : Blk), ((((H.set 0 (.pk 0 [ws, ws] [xp] [.row r])).set p .dead).set q .dead).set a .dead)[j]? = some c →
      (j = 0 ∧ c = .pk 0 [ws, ws] [xp] [.row r]) ∨ ((j = p ∨ j = q ∨ j = a) ∧ j ≠ 0 ∧ c = .dead) ∨ (j ≠ 0 ∧ j ≠ p ∧ j ≠ q ∧ j ≠ a ∧ H[j]? = some c) := fun j c hc => by
    have hl := (List.getElem?_eq_some_iff.1 hc).1
    simp only [List.length_set] at hl
    simp only [List.getElem?_set, List.length_set] at hc
    by_cases ja : a = j
    · subst ja; simp [hl] at hc; exact .inr (.inl ⟨.inr (.inr rfl), Ne.symm n3, hc.symm⟩)
    · by_cases jq : q = j
      · subst jq; simp [ja, hl] at hc; exact .inr (.inl ⟨.inr (.inl rfl), Ne.symm n2, hc.symm⟩)
      · by_cases jp : p = j
        · subst jp; simp [ja, jq, hl] at hc; exact .inr (.inl ⟨.inl rfl, Ne.symm n1, hc.symm⟩)
        · by_cases j0 : 0 = j
          · subst j0; simp [ja, jq, jp, hl] at hc; exact .inl ⟨rfl, hc.symm⟩
          · simp [ja, jq, jp, j0] at hc; exact .inr (.inr ⟨Ne.symm j0, Ne.symm jp, Ne.symm jq, Ne.symm ja, hc⟩)
  have fz : F' 0 = foot Fc 7 := by simp only [F', if_true]
  have fd : ∀ j, (j = p ∨ j = q ∨ j = a) → j ≠ 0 → F' j = [] := fun j h h0 => by simp only [F', h0, if_false, h, if_true]
  have fo : ∀ j, j ≠ 0 → j ≠ p → j ≠ q → j ≠ a → F' j = F j := fun j h1 h2 h3 h4 => by simp [F', h1, h2, h3, h4]
  have small : ∀ k ∈ foot Fc 7, k < w.heap.size := fun k hk => by
    obtain ⟨i, hi, hm⟩ := hfootc k hk
    obtain ⟨b, hb, _⟩ := hwr i hi
    exact hs.lt i b hb k hm
  refine ⟨xp, F', vp, ⟨by simp [hs.len], fun j c y hc hy => ?_, fun j c hc k hk => ?_, fun i j bi bj hbi hbj hij hw k hk => ?_⟩, ⟨rfl, rfl, rfl, Nat.le_refl _, fun _ _ _ => rfl, fun j c hc hcw k hk => ?_, fun j c hc k hk => ?_⟩⟩
  · rcases hget j c hc with ⟨rfl, rfl⟩ | ⟨hj, hj0, rfl⟩ | ⟨h1, h2, h3, h4, hc⟩
    · rw [v0] at hy; injection hy with hy; subst hy
      rw [fz]
      refine ⟨viewHeap f .dead m n [] [], ρc, Fc, [.slice adr lenr capr], ?_, sub, rfl, rfl, fun k z hk => ?_, ?_, fun k z hk => ?_⟩
      · rw [hE]; exact ⟨m, n, [], [], rfl, ViewOK.fresh hsm m⟩
      · match k, hk with
        | 0, hk => injection hk with hk; subst hk; rfl
        | k + 1, hk => cases hk
      · simp only [denL, V.den, vr]
      · match k, hk with
        | 0, hk => injection hk with hk; subst hk; rfl
        | k + 1, hk => cases hk
    · rw [fd j hj hj0]; exact rfl
    · rw [fo j h1 h2 h3 h4]; exact hs.each j c y hc hy
  · rcases hget j c hc with ⟨rfl, rfl⟩ | ⟨hj, hj0, rfl⟩ | ⟨h1, h2, h3, h4, hc⟩
    · rw [fz] at hk; exact small k hk
    · rw [fd j hj hj0] at hk; cases hk
    · rw [fo j h1 h2 h3 h4] at hk; exact hs.lt j c hc k hk
  · rcases hget i bi hbi with ⟨rfl, rfl⟩ | ⟨hi, hi0, rfl⟩ | ⟨h1, h2, h3, h4, hbi⟩
    · rw [fz] at hk
      obtain ⟨i', hi', hm⟩ := hfootc k hk
      rcases hget j bj hbj with ⟨rfl, rfl⟩ | ⟨hj, hj0, rfl⟩ | ⟨g1, g2, g3, g4, hbj⟩
      · exact absurd rfl hij
      · rw [fd j hj hj0]; simp
      · rw [fo j g1 g2 g3 g4]
        exact hd i' j hi' (fun e => by rcases hi' with h | h | h | h <;> subst h <;> subst e <;> first | exact g1 rfl | exact g2 rfl | exact g3 rfl | exact g4 rfl) (hlt j bj hbj) k hm
    · cases hw
    · rw [fo i h1 h2 h3 h4] at hk
      rcases hget j bj hbj with ⟨rfl, rfl⟩ | ⟨hj, hj0, rfl⟩ | ⟨g1, g2, g3, g4, hbj⟩
      · rw [fz]
        intro hm
        obtain ⟨i', hi', hm'⟩ := hfootc k hm
        obtain ⟨b', hb', _⟩ := hwr i' hi'
        exact hs.disj i i' bi b' hbi hb' (fun e => by rcases hi' with h | h | h | h <;> subst h <;> subst e <;> first | exact h1 rfl | exact h2 rfl | exact h3 rfl | exact h4 rfl) hw k hk hm'
      · rw [fd j hj hj0]; simp
      · rw [fo j g1 g2 g3 g4]; exact hs.disj i j bi bj hbi hbj hij hw k hk
  · rcases hget j c hc with ⟨rfl, rfl⟩ | ⟨hj, hj0, rfl⟩ | ⟨h1, h2, h3, h4, hc⟩
    · rw [fz] at hk
      obtain ⟨i', hi', hm⟩ := hfootc k hk
      obtain ⟨b', hb', hw'⟩ := hwr i' hi'
      exact .inr ⟨i', b', hb', hw', hm⟩
    · cases hcw
    · rw [fo j h1 h2 h3 h4] at hk; exact .inr ⟨j, c, hc, hcw, hk⟩
  · rcases hget j c hc with ⟨rfl, rfl⟩ | ⟨hj, hj0, rfl⟩ | ⟨h1, h2, h3, h4, hc⟩
    · rw [fz] at hk
      obtain ⟨i', hi', hm⟩ := hfootc k hk
      obtain ⟨b', hb', hw'⟩ := hwr i' hi'
      exact .inr ⟨i', b', hb', hm⟩
    · rw [fd j hj hj0] at hk; cases hk
    · rw [fo j h1 h2 h3 h4] at hk; exact .inr ⟨j, c, hc, hk⟩
end Go.Rx
end

section
namespace Go.Rx
variable {cfg : Cfg} {ρ : List Value} {F : Nat → List Nat} {H : Heap} {w : World}
theorem sat_open {f : FuncId} (hE : cfg.elT.abs = absView f) {p r : Nat} {ws cur : List Int} {x : Value} (hs : Sat cfg.elT ρ F H w)
    (h0 : H[0]? = some (.pk 0 [ws, cur] [x] [.row r])) (hp : H[p]? = some .dead) (hx : ρ[p]? = some x) :
    ∃ m n nd its ρ' F', ViewOK ws cur m nd its ∧ Le ρ ρ' ∧
      Sat cfg.elT ρ' F' (((H.set 0 (.cells 0 [.mth f (.ptr p 0), .ptr H.length 0, vb true])).set p (.cells 0 [.row r, .mp (H.length + 1), .row (H.length + 2)])) ++
        [.cells 0 [.row (H.length + 3)], .map m n, .row 2 nd false, .row 5 its false]) w ∧
      Fr H F w (((H.set 0 (.cells 0 [.mth f (.ptr p 0), .ptr H.length 0, vb true])).set p (.cells 0 [.row r, .mp (H.length + 1), .row (H.length + 2)])) ++
        [.cells 0 [.row (H.length + 3)], .map m n, .row 2 nd false, .row 5 its false]) F' w := by
  obtain ⟨x0, v0, Hc, ρc, Fc, zs, a1, a2, a3, a4, a5, a6, a7⟩ := sat_val hs h0
  rw [hE] at a1
  obtain ⟨m, n, nd, its, rfl, hv⟩ : ∃ m n nd its, Hc = viewHeap f .dead m n nd its ∧ ViewOK ws cur m nd its := a1
  have hp0 : p ≠ 0 := fun e => by subst e; rw [h0] at hp; cases hp
  have hL0 : 0 < H.length := (List.getElem?_eq_some_iff.1 h0).1
  have hLp : p < H.length := (List.getElem?_eq_some_iff.1 hp).1
  obtain ⟨xr, hxr, hzs⟩ : ∃ xr, V.den ρ (.row r) = some xr ∧ zs = [xr] := by
    simp only [denL] at a6
    cases hd : V.den ρ (.row r) with
    | none => rw [hd] at a6; cases a6
    | some y => rw [hd] at a6; injection a6 with a6; exact ⟨y, rfl, a6.symm⟩
  subst hzs
  have c1 : ρc[1]? = some x := a5 0 x rfl
  have c2 : ρc[2]? = some xr := a7 0 xr rfl
  have clen : ρc.length = 7 := a2.len
  have vget : ∀ i, i < 7 → ∃ y, ρc[i]? = some y := fun i hi => ⟨_, List.getElem?_eq_getElem (by rw [clen]; exact hi)⟩
  obtain ⟨y3, c3⟩ := vget 3 (by omega)
  obtain ⟨y4, c4⟩ := vget 4 (by omega)
  obtain ⟨y5, c5⟩ := vget 5 (by omega)
  obtain ⟨y6, c6⟩ := vget 6 (by omega)
  have k0 := a2.each 0 _ x0 rfl a3
  have k1 := a2.each 1 _ x rfl c1
  have k3 := a2.each 3 _ y3 rfl c3
  have k4 := a2.each 4 _ y4 rfl c4
  have k5 := a2.each 5 _ y5 rfl c5
  have k6 := a2.each 6 _ y6 rfl c6
  have hrlen := hs.len
  let ρ' := ρ ++ [y3, y4, y5, y6]
  let src : Nat → Option Nat := fun j => if j = 0 then some 0 else if j = p then some 1 else if j < H.length then none else some (j - H.length + 3)
  let F' : Nat → List Nat := fun j => match src j with | some k => Fc k | none => F j
  have hle : Le ρ ρ' := Le.append ρ _
  have g3 : ρ'[H.length]? = some y3 := by show (ρ ++ [y3, y4, y5, y6])[H.length]? = _; rw [List.getElem?_append_right (by omega), hrlen]; simp
  have g4 : ρ'[H.length + 1]? = some y4 := by show (ρ ++ [y3, y4, y5, y6])[H.length + 1]? = _; rw [List.getElem?_append_right (by omega), hrlen]; simp
  have g5 : ρ'[H.length + 2]? = some y5 := by show (ρ ++ [y3, y4, y5, y6])[H.length + 2]? = _; rw [List.getElem?_append_right (by omega), hrlen]; simp
  have g6 : ρ'[H.length + 3]? = some y6 := by show (ρ ++ [y3, y4, y5, y6])[H.length + 3]? = _; rw [List.getElem?_append_right (by omega), hrlen]; simp
  have gp : ρ'[p]? = some x := hle p x hx
  have gr : V.den ρ' (.row r) = some xr := den_le hle _ _ hxr
  have e0 : src 0 = some 0 := by simp [src]
  have ep : src p = some 1 := by simp [src, hp0]
  have en : ∀ k, src (H.length + k) = some (k + 3) := fun k => by
    have h1 : ¬ H.length + k = 0 := by omega
    have h2 : ¬ H.length + k = p := by omega
    have h3 : ¬ H.length + k < H.length := by omega
    simp only [src, h1, h2, h3, if_false]
    congr 1
    omega
  have eo : ∀ j, j ≠ 0 → j ≠ p → j < H.length → src j = none := fun j h1 h2 h3 => by simp only [src, h1, h2, h3, if_false, if_true]
  have hget : ∀ (j : Nat) (c : Blk), (((H.set 0 (.cells 0 [.mth f (.ptr p 0), .ptr H.length 0, vb true])).set p (.cells 0 [.row r, .mp (H.length + 1), .row (H.length + 2)])) ++
        [.cells 0 [.row (H.length + 3)], .map m n, .row 2 nd false, .row 5 its false])[j]? = some c →
      (j = 0 ∧ c = .cells 0 [.mth f (.ptr p 0), .ptr H.length 0, vb true]) ∨ (j = p ∧ c = .cells 0 [.row r, .mp (H.length + 1), .row (H.length + 2)]) ∨
      (j ≠ 0 ∧ j ≠ p ∧ j < H.length ∧ H[j]? = some c) ∨ (j = H.length + 0 ∧ c = .cells 0 [.row (H.length + 3)]) ∨ (j = H.length + 1 ∧ c = .map m n) ∨ (j = H.length + 2 ∧ c = .row 2 nd false) ∨ (j = H.length + 3 ∧ c = .row 5 its false) := fun j c hc => by
    by_cases hj : j < H.length
    · rw [List.getElem?_append_left (by simpa using hj)] at hc
      simp only [List.getElem?_set, List.length_set] at hc
      by_cases jp : p = j
      · subst jp; simp [hj] at hc; exact .inr (.inl ⟨rfl, hc.symm⟩)
      · by_cases j0 : 0 = j
        · subst j0; simp [jp, hj] at hc; exact .inl ⟨rfl, hc.symm⟩
        · simp [jp, j0] at hc; exact .inr (.inr (.inl ⟨Ne.symm j0, Ne.symm jp, hj, hc⟩))
    · rw [List.getElem?_append_right (by simpa using hj)] at hc
      simp only [List.length_set] at hc
      have : ∃ k, j = H.length + k := ⟨j - H.length, by omega⟩
      obtain ⟨k, rfl⟩ := this
      rw [Nat.add_sub_cancel_left] at hc
      match k, hc with
      | 0, hc => injection hc with hc; exact .inr (.inr (.inr (.inl ⟨rfl, hc.symm⟩)))
      | 1, hc => injection hc with hc; exact .inr (.inr (.inr (.inr (.inl ⟨rfl, hc.symm⟩))))
      | 2, hc => injection hc with hc; exact .inr (.inr (.inr (.inr (.inr (.inl ⟨rfl, hc.symm⟩)))))
      | 3, hc => injection hc with hc; exact .inr (.inr (.inr (.inr (.inr (.inr ⟨rfl, hc.symm⟩)))))
      | k + 4, hc => cases hc
  have hcl : ∀ (j : Nat) (c : Blk), (((H.set 0 (.cells 0 [.mth f (.ptr p 0), .ptr H.length 0, vb true])).set p (.cells 0 [.row r, .mp (H.length + 1), .row (H.length + 2)])) ++
        [.cells 0 [.row (H.length + 3)], .map m n, .row 2 nd false, .row 5 its false])[j]? = some c →
      (∃ k b, src j = some k ∧ (viewHeap f .dead m n nd its)[k]? = some b ∧ b.writable = true ∧ c.writable = true) ∨ (src j = none ∧ j ≠ 0 ∧ H[j]? = some c) := fun j c hc => by
    rcases hget j c hc with ⟨rfl, rfl⟩ | ⟨rfl, rfl⟩ | ⟨h1, h2, h3, h4⟩ | ⟨rfl, rfl⟩ | ⟨rfl, rfl⟩ | ⟨rfl, rfl⟩ | ⟨rfl, rfl⟩
    · exact .inl ⟨0, _, e0, rfl, rfl, rfl⟩
    · exact .inl ⟨1, _, ep, rfl, rfl, rfl⟩
    · exact .inr ⟨eo j h1 h2 h3, h1, h4⟩
    · exact .inl ⟨3, _, en 0, rfl, rfl, rfl⟩
    · exact .inl ⟨4, _, en 1, rfl, rfl, rfl⟩
    · exact .inl ⟨5, _, en 2, rfl, rfl, rfl⟩
    · exact .inl ⟨6, _, en 3, rfl, rfl, rfl⟩
  have fs : ∀ j k, src j = some k → F' j = Fc k := fun j k h => by simp only [F', h]
  have fn : ∀ j, src j = none → F' j = F j := fun j h => by simp only [F', h]
  have sinj : ∀ i j k, src i = some k → src j = some k → i = j := by
    intro i j k hi hj
    simp only [src] at hi hj
    split at hi
    · rename_i e; injection hi with hi; subst hi
      split at hj
      · rename_i e'; omega
      · split at hj
        · cases hj
        · split at hj
          · cases hj
          · injection hj with hj; omega
    · split at hi
      · rename_i e; injection hi with hi; subst hi
        split at hj
        · cases hj
        · split at hj
          · rename_i e'; omega
          · split at hj
            · cases hj
            · injection hj with hj; omega
      · split at hi
        · cases hi
        · injection hi with hi; subst hi
          split at hj
          · injection hj with hj; omega
          · split at hj
            · injection hj with hj; omega
            · split at hj
              · cases hj
              · injection hj with hj; omega
  have inF0 : ∀ k (b : Blk), (viewHeap f .dead m n nd its)[k]? = some b → ∀ y ∈ Fc k, y ∈ F 0 := fun k b hb y hy => by
    rw [a4]; exact mem_foot (List.getElem?_eq_some_iff.1 hb).1 hy
  refine ⟨m, n, nd, its, ρ', F', hv, hle, ⟨by simp [ρ', hrlen], fun j c y hc hy => ?_, fun j c hc k hk => ?_, fun i j bi bj hbi hbj hij hw k hk => ?_⟩, ⟨rfl, rfl, rfl, Nat.le_refl _, fun _ _ _ => rfl, fun j c hc hcw k hk => ?_, fun j c hc k hk => ?_⟩⟩
  · rcases hget j c hc with ⟨rfl, rfl⟩ | ⟨rfl, rfl⟩ | ⟨h1, h2, h3, h4⟩ | ⟨rfl, rfl⟩ | ⟨rfl, rfl⟩ | ⟨rfl, rfl⟩ | ⟨rfl, rfl⟩
    · rw [fs 0 0 e0]
      have : ρ'[0]? = some x0 := hle 0 x0 v0
      rw [this] at hy; injection hy with hy; subst hy
      obtain ⟨b, vs, q1, q2, q3, q4⟩ := k0
      refine ⟨b, vs, q1, q2, ?_, q4⟩
      rw [← q3]
      simp only [denL, V.den, vb, gp, g3, c1, c3]
    · rw [fs _ 1 ep]
      rw [gp] at hy; injection hy with hy; subst hy
      obtain ⟨b, vs, q1, q2, q3, q4⟩ := k1
      refine ⟨b, vs, q1, q2, ?_, q4⟩
      rw [← q3]
      have hr2 : V.den ρc (.row 2) = some xr := by
        simp only [V.den, c2]
        simp only [V.den] at hxr
        split at hxr
        · injection hxr with hxr; subst hxr; rfl
        · cases hxr
      simp only [denL, gr, hr2]
      simp only [V.den, g4, c4, g5, c5]
    · rw [fn j (eo j h1 h2 h3)]
      have hjl : j < ρ.length := by rw [hrlen]; exact h3
      have : ρ'[j]? = ρ[j]? := List.getElem?_append_left hjl
      rw [this] at hy
      exact Blk.holds_le hle (fun _ _ => rfl) c (hs.each j c y h4 hy)
    · rw [fs _ 3 (en 0)]
      have g : ρ'[H.length + 0]? = some y3 := g3
      rw [g] at hy; injection hy with hy; subst hy
      obtain ⟨b, vs, q1, q2, q3, q4⟩ := k3
      refine ⟨b, vs, q1, q2, ?_, q4⟩
      rw [← q3]
      simp only [denL, V.den, g6, c6]
    · rw [fs _ 4 (en 1)]
      rw [g4] at hy; injection hy with hy; subst hy
      exact k4
    · rw [fs _ 5 (en 2)]
      rw [g5] at hy; injection hy with hy; subst hy
      exact k5
    · rw [fs _ 6 (en 3)]
      rw [g6] at hy; injection hy with hy; subst hy
      exact k6
  · rcases hcl j c hc with ⟨i, b, hj, hb, hw, _⟩ | ⟨hj, hj0, hc'⟩
    · rw [fs j i hj] at hk; exact a2.lt i b hb k hk
    · rw [fn j hj] at hk; exact hs.lt j c hc' k hk
  · rcases hcl i bi hbi with ⟨i', b, hi, hb, hbw, _⟩ | ⟨hi, hi0, hbi'⟩
    · rw [fs i i' hi] at hk
      rcases hcl j bj hbj with ⟨j', b', hj, hb', hbw', _⟩ | ⟨hj, hj0, hbj'⟩
      · rw [fs j j' hj]
        exact a2.disj i' j' b b' hb hb' (fun e => by subst e; exact hij (sinj i j i' hi hj)) hbw k hk
      · rw [fn j hj]
        exact hs.disj 0 j _ bj h0 hbj' (Ne.symm hj0) rfl k (inF0 i' b hb k hk)
    · rw [fn i hi] at hk
      rcases hcl j bj hbj with ⟨j', b', hj, hb', hbw', _⟩ | ⟨hj, hj0, hbj'⟩
      · rw [fs j j' hj]
        intro hm
        exact hs.disj i 0 bi _ hbi' h0 hi0 hw k hk (inF0 j' b' hb' k hm)
      · rw [fn j hj]
        exact hs.disj i j bi bj hbi' hbj' hij hw k hk
  · rcases hcl j c hc with ⟨i, b, hj, hb, hw, _⟩ | ⟨hj, hj0, hc'⟩
    · rw [fs j i hj] at hk; exact .inr ⟨0, _, h0, rfl, inF0 i b hb k hk⟩
    · rw [fn j hj] at hk; exact .inr ⟨j, c, hc', hcw, hk⟩
  · rcases hcl j c hc with ⟨i, b, hj, hb, hw, _⟩ | ⟨hj, hj0, hc'⟩
    · rw [fs j i hj] at hk; exact .inr ⟨0, _, h0, inF0 i b hb k hk⟩
    · rw [fn j hj] at hk; exact .inr ⟨j, c, hc', hk⟩
theorem pack_ok {f : FuncId} (hE : cfg.elT.abs = absView f) {g : FuncId} {s : Spec} (hspec : SpecOK cfg.P cfg.elT g s) : SpecOK cfg.P cfg.elT g (packS f s) := by
  refine ⟨hspec.1, fun args H K htr ρ F w vals hden hsat => ?_⟩
  unfold packS at htr
  simp only at htr
  split at htr
  · rename_i T0 f' p q h0
    split at htr
    · rename_i T1 r a T2 hp hq
      split at htr
      · rename_i ws m n hr ha
        have hc := cond_elim htr
        have hc1 := hc.1
        simp only [Bool.and_eq_true] at hc1
        obtain ⟨hf, hnd⟩ := hc1
        obtain rfl := Nat.eq_of_beq_eq_true hf
        have hq' := Req_elim hc.2
        have hsm : List.length ws ≤ 1048576 := by simpa using hq'.1
        obtain ⟨x, F1, hx, hs1, hfr1⟩ := sat_pack hE hsat h0 hp hq hr ha hnd hsm
        have hcall := hq'.2 x
        refine (callC_sound (cfg := cfg) (lk := none) (fun _ h => by cases h) hspec hcall hden hs1).mono ?_
        rintro e w' ⟨v, y, ρ', F', H', rfl, hK, hrel, hst⟩
        split at hK
        · rename_i ws' cur' x' r' h0' hp'
          have hd := cond_elim hK
          obtain rfl := Nat.eq_of_beq_eq_true hd.1
          obtain ⟨rfl, hk⟩ := hd.2
          obtain ⟨m', n', nd', its', ρ2, F2, hv, hle2, hs2, hfr2⟩ := sat_open hE hst.sat h0' hp' (hst.le p _ hx)
          exact ⟨v, y, ρ2, F2, _, rfl, hk m' n' nd' its' hv, hrel.le hle2, hst.le.trans hle2, hs2, (hfr1.trans hst.fr).trans hfr2⟩
        · exact hK.elim
      · exact htr.elim
    · exact htr.elim
  · exact htr.elim
end Go.Rx
end

section
namespace Go.Rx
def eqL (a b : List Int) : Bool := decide (a = b)
theorem eqL_eq {a b : List Int} (h : eqL a b = true) : a = b := of_decide_eq_true h
theorem eqL_self (a : List Int) : eqL a a = true := decide_eq_true rfl
def inlS (cfg : Cfg) (fn : Func) : Spec where
  tr := fun args H K => exF cfg fn args H K
theorem inlS_ok {cfg : Cfg} (ok : CfgOK cfg) (hsig : ∀ g s, cfg.sigs g = some s → SpecOK cfg.P cfg.elT g s) {g : FuncId} {fn : Func}
    (hg : cfg.P.funcs[g]? = some fn) (hname : (fn.name == "runtime.NumGoroutine") = false) (hb : fn.body.isNone = false) : SpecOK cfg.P cfg.elT g (inlS cfg fn) :=
  spec_of_exF ok hsig hg hname hb fun _ _ _ h => h
end Go.Rx
end

section
namespace Go.Rx
variable {cfg : Cfg} {ρ : List Value} {F : Nat → List Nat} {H : Heap} {w : World}
def SpecDOK (P : Program) (elT : ET) (g : FuncId) (s : Spec) : Prop :=
  (∃ fn, P.funcs[g]? = some fn ∧ (fn.name == "runtime.NumGoroutine") = false ∧ fn.body.isNone = false) ∧
  ∀ (args : List V) (H : Heap) (K : V → Heap → Prop), s.tr args H K → ∀ (ρ : List Value) (F : Nat → List Nat) (w : World) (vals : List Value), denL ρ args = some vals → Sat elT ρ F H w →
    CallsD P g vals.toArray .returning w fun e u' w' => u' = .returning ∧ ∃ v x ρ' F' H', e = .returned x ∧ K v H' ∧ Rel ρ' v x ∧ Le ρ ρ' ∧ Sat elT ρ' F' H' w' ∧ Fr H F w H' F' w'
theorem specD_of_exF (ok : CfgOK cfg) (hsig : ∀ g s, cfg.sigs g = some s → SpecOK cfg.P cfg.elT g s) {g : FuncId} {fn : Func} {s : Spec} (hg : cfg.P.funcs[g]? = some fn) (hname : (fn.name == "runtime.NumGoroutine") = false) (hb : fn.body.isNone = false)
    (h : ∀ (args : List V) (H : Heap) (K : V → Heap → Prop), s.tr args H K → exF cfg fn args H K) : SpecDOK cfg.P cfg.elT g s := by
  refine ⟨⟨fn, hg, hname, hb⟩, fun args H K htr ρ F w vals hden hsat => ?_⟩
  have hex := h args H K htr
  cases hc : fn.body with
  | none => rw [hc] at hb; cases hb
  | some c => exact callsD_of_wp hg hc (wp_of_exF ok hsig hc hex hden hsat)
def noRecO (o : Oper) : Oper := match o.op with
  | .call c => match c.callee with
    | .builtin .recover => { o with op := .assign (.const .nilIface) }
    | _ => o
  | _ => o
theorem noRecO_cases (o : Oper) : (noRecO o = o) ∨ (∃ c, o.op = .call c ∧ c.callee = .builtin .recover ∧ noRecO o = { o with op := .assign (.const .nilIface) }) := by
  unfold noRecO
  split
  · rename_i c hc
    split
    · rename_i hr; exact .inr ⟨c, hc, hr, rfl⟩
    · exact .inl rfl
  · exact .inl rfl
theorem noRecO_same (o : Oper) : (noRecO o).dst = o.dst ∧ (noRecO o).guard = o.guard ∧ (noRecO o).after = o.after := by
  rcases noRecO_cases o with h | ⟨c, _, _, h⟩ <;> rw [h] <;> exact ⟨rfl, rfl, rfl⟩
theorem yielded_noRec (ops : Array Oper) (tmps : Array Value) : yielded (ops.map noRecO) tmps = yielded ops tmps := by
  funext j
  unfold yielded
  rw [Array.getElem?_map]
  cases ops[j]? with
  | none => rfl
  | some o => simp only [Option.map_some, Option.bind_some, (noRecO_same o).1]
theorem linearise_noRec (ops : Array Oper) : ∀ (fuel t : Nat) (listed : Array Bool) (acc : List Nat), Region.linearise.go .any (ops.map noRecO) fuel t listed acc = Region.linearise.go .any ops fuel t listed acc
  | 0, _, _, _ => rfl
  | fuel + 1, t, listed, acc => by
    have hrs : ((List.range (ops.map noRecO).size).filter fun i => !listed.getD i true && (((ops.map noRecO)[i]?).map (·.after.all fun e => !Region.binds .any e || listed.getD e.on false)).getD false) =
        ((List.range ops.size).filter fun i => !listed.getD i true && ((ops[i]?).map (·.after.all fun e => !Region.binds .any e || listed.getD e.on false)).getD false) := by
      rw [Array.size_map]
      refine List.filter_congr fun i _ => ?_
      rw [Array.getElem?_map]
      cases ops[i]? with
      | none => rfl
      | some o => simp only [Option.map_some, (noRecO_same o).2.2]
    unfold Region.linearise.go
    simp only [hrs]
    split
    · exact linearise_noRec ops fuel _ _ _
    · rfl
theorem run_recover {P : Program} {o : Oper} {c : Call} (h : o.op = .call c) (hr : c.callee = .builtin .recover) (a : Act) (w : World) : (execOp a.eval o).run P w = .ok .recover w := by
  obtain ⟨callee, args, ts⟩ := c
  simp only at hr
  subst hr
  simp [execOp, h, resolve, invoke, builtin]
theorem opsS_of_ops {P : Program} {ops : Array Oper} {Q : Exit → Act → World → Prop} (hout : ∀ a w, ¬ Q .outgrown a w) {cs : List Frame} (hrec : recoverD cs = none) :
    ∀ (l : List Nat) (a : Act) (w : World), wpOps P (ops.map noRecO) Q l a w → wpOpsS P ops (fun e a cs' w => cs' = cs ∧ Q e a w) l a cs w
  | [], a, w, h => ⟨rfl, h⟩
  | i :: rest, a, w, h => by
    have ih := opsS_of_ops (P := P) (ops := ops) hout hrec rest
    simp only [wpOps, Array.getElem?_map] at h
    simp only [wpOpsS]
    cases ho : ops[i]? with
    | none =>
      rw [ho] at h
      exact ih a w h
    | some o =>
      rw [ho] at h
      simp only [Option.map_some, yielded_noRec] at h
      have hw : Region.wanted (noRecO o) (yielded ops a.tmps) = Region.wanted o (yielded ops a.tmps) := by
        unfold Region.wanted
        rw [(noRecO_same o).2.1]
      rw [hw, (noRecO_same o).1] at h
      simp only
      split
      · rename_i hwt
        rw [if_pos hwt] at h
        have h : (noRecO o).wp P a w (wpOps P (ops.map noRecO) Q rest) Q := h.resolve_right fun ⟨_, a', w', hq⟩ => hout a' w' hq
        rcases noRecO_cases o with hn | ⟨c, h1, h2, h3⟩
        · rw [hn] at h
          unfold Oper.wp at h
          generalize hr : (execOp a.eval o).run P w = r at h ⊢
          cases r with
          | ok n w' =>
            cases n <;> simp only [Oper.upon] at h ⊢
            all_goals first
              | exact h.elim
              | exact ih _ _ h
              | exact Calls.mono h (fun e w'' he => by cases e <;> first | exact ih _ _ he | exact ⟨rfl, he⟩ | exact ⟨trivial, he⟩ | exact he | (obtain ⟨a', w₀, hq⟩ := he; exact absurd hq (hout _ _)))
              | exact Rows.mono h (fun _ _ he => ih _ _ he)
          | halt x w' => cases x <;> simp only [Oper.upon] at h ⊢ <;> first | exact h.elim | exact ⟨rfl, h⟩ | exact ⟨trivial, h⟩ | exact h
        · rw [run_recover h1 h2]
          simp only [hrec]
          rw [h3] at h
          have h' : wpOps P (ops.map noRecO) Q rest (a.put o.dst .nilIface) w := h
          exact ih _ _ h'
      · rename_i hwt
        rw [if_neg hwt] at h
        exact ih _ _ h
theorem wpS_region_draw {P : Program} {id : Nat} {ops : Array Oper} {Q : Exit → Act → List Frame → World → Prop} {a : Act} {cs : List Frame} {w : World}
    (h : ∀ t, wpOpsS P ops Q (Region.schedule (P.follows .mixedOrders) ops t) a cs { w with drawn := w.drawn + 1 }) : (Code.region id ops true).wpS P Q a cs w :=
  fun b k hb hr => let ⟨e, a', cs', w', q, r⟩ := wp_opsS _ a cs _ (h _) b k hb hr; ⟨e, a', cs', w', q, .of_steps (.one step_region_draw) r⟩
theorem specD_of_exF_rec (ok : CfgOK cfg) (hsig : ∀ g s, cfg.sigs g = some s → SpecOK cfg.P cfg.elT g s) {g : FuncId} {fn : Func} {s : Spec} (hg : cfg.P.funcs[g]? = some fn) (hname : (fn.name == "runtime.NumGoroutine") = false)
    {id : Nat} {ops : Array Oper} (hc : fn.body = some (.region id ops true)) {plan : List Nat} {kd : Nat} (hpT : cfg.planT id = none) (hpl : cfg.plan id = some (plan, kd))
    (h : ∀ (args : List V) (H : Heap) (K : V → Heap → Prop), s.tr args H K → exF cfg { fn with body := some (.region id (ops.map noRecO) true) } args H K) : SpecDOK cfg.P cfg.elT g s := by
  refine ⟨⟨fn, hg, hname, by rw [hc]; rfl⟩, fun args H K htr ρ F w vals hden hsat => ?_⟩
  have hex := h args H K htr
  have hex : (match cfg.planT id with
       | some (p, kd) => bif planOkT (ops.map noRecO) p && lateOk (ops.map noRecO) (kdQ kd).late then exOpsT cfg (cxOf fn args H).nt (some (lkOf (kdB kd))) (kdQ kd) (early (kdQ kd) (ops.map noRecO).toList) (some H) (ops.map noRecO).toList p (argEnv args) H (retK cfg fn H.length K .normal) else False
       | none => match cfg.plan id with
        | some (plan, kd) => bif planOk (ops.map noRecO) plan && lateOk (ops.map noRecO) (kdQ kd).late then exOps cfg (cxOf fn args H).nt (some (lkOf (kdB kd))) (kdQ kd) (early (kdQ kd) (ops.map noRecO).toList) (some H) (ops.map noRecO).toList plan (argEnv args) H (retK cfg fn H.length K .normal) else False
        | none => False) := hex
  rw [hpT, hpl] at hex
  simp only at hex
  have hcd := cond_elim hex
  have hc1 := hcd.1
  simp only [planOk, Bool.and_eq_true] at hc1
  obtain ⟨hc1, hlt⟩ := hc1
  obtain ⟨⟨hsel, hlen⟩, hgo⟩ := hc1
  have hlen : plan.length = (ops.map noRecO).size := by simpa using hlen
  have hl := denL_len hden
  have hd := hsat.drew
  have hst : St cfg (cxOf fn args H).nt [] ρ F (argEnv args) H { tmps := vals.toArray ++ Array.replicate (fn.ntmps - vals.toArray.size) undef, defers := [] } w.drew :=
    ⟨argEnv_rel hden _, by simp [cxOf, hl], rfl, hd⟩
  have hs0 : St0 cfg (cxOf fn args H) [] ρ F H w ρ F (argEnv args) H { tmps := vals.toArray ++ Array.replicate (fn.ntmps - vals.toArray.size) undef, defers := [] } w.drew :=
    ⟨hst, Fr.refl.trans Fr.drew, fun _ _ => rfl⟩
  have hp : (cxOf fn args H).pins ≤ ρ.length := by rw [hsat.len]; exact Nat.le_refl _
  have hany := exOps_drawn (nt := (cxOf fn args H).nt) (f := lkOf (kdB kd)) (q := kdQ kd) (ops := ops.map noRecO) ok hlt hsig (lkOK_lkOf (kdB kd)) hsel (Q := QK cfg (cxOf fn args H) [] ρ F H w (retK cfg fn H.length K)) (fun _ _ _ h => h) hd plan
    (Array.replicate (ops.map noRecO).size false) ρ F H w.drew (argEnv args) _ hgo (by simp) (closed_start _) hcd.2 hst (.refl hd) (fun _ => Kept.refl)
    (fun ρ' F' H' w' env' a' h1 h2 h3 => ⟨ρ', F', env', H', hs0.step hp h2 h3, h1⟩)
  rw [hlen] at hany
  refine callsD_of_wpS hg hc fun c₀ cs hmode => wpS_region_draw fun t => ?_
  have hops := wpAny_sound (P := cfg.P) (ops := ops.map noRecO) (md := .any) (ops.map noRecO).size t _ _ _ (wpAny_of_G _ _ _ _ hany)
  have hsched : Region.schedule (cfg.P.follows .mixedOrders) ops t = Region.linearise.go .any (ops.map noRecO) (ops.map noRecO).size t (Array.replicate (ops.map noRecO).size false) [] := by
    simp only [Region.schedule, ok.mixed, Bool.true_or, if_true, Region.linearise]
    rw [linearise_noRec, Array.size_map]
  rw [hsched]
  have hrec : recoverD (c₀ :: cs) = none := by simp [recoverD, hmode]
  have hS := opsS_of_ops (Q := QK cfg (cxOf fn args H) [] ρ F H w (retK cfg fn H.length K)) (fun _ _ h => h) hrec _ _ _ hops
  have mono : ∀ (l : List Nat) (a : Act) (w' : World), wpOpsS cfg.P ops (fun e a cs' w' => cs' = c₀ :: cs ∧ QK cfg (cxOf fn args H) [] ρ F H w (retK cfg fn H.length K) e a w') l a (c₀ :: cs) w' →
      wpOpsS cfg.P ops (bodyPostS cfg.P fn c₀ cs fun e u' w' => u' = .returning ∧ ∃ v x ρ' F' H', e = .returned x ∧ K v H' ∧ Rel ρ' v x ∧ Le ρ ρ' ∧ Sat cfg.elT ρ' F' H' w' ∧ Fr H F w H' F' w') l a (c₀ :: cs) w' := by
    intro l
    induction l with
    | nil =>
      intro a w' h
      obtain ⟨_, ρ1, F1, env1, H1, h1, h2⟩ := h
      obtain ⟨v, hv, hrest⟩ := ret_sound hsat h1 h2
      exact ⟨h1.st.defers, .returning, by rw [← hmode], v, hv, rfl, hrest⟩
    | cons i rest ih =>
      intro a w' h
      simp only [wpOpsS] at h ⊢
      cases ho : ops[i]? with
      | none => rw [ho] at h; exact ih _ _ h
      | some o =>
        rw [ho] at h
        simp only at h ⊢
        split
        · rename_i hwt
          rw [if_pos hwt] at h
          generalize hr : (execOp a.eval o).run cfg.P w' = r at h ⊢
          cases r with
          | ok n w2 =>
            cases n <;> simp only [Oper.upon, hrec] at h ⊢
            all_goals first
              | exact h.elim
              | exact ih _ _ h
              | exact Calls.mono h (fun e w'' he => by cases e <;> first | exact ih _ _ he | exact he.2.elim | exact he.elim | (obtain ⟨_, _, hq⟩ := he; first | exact hq.2.elim | exact hq.elim))
              | exact Rows.mono h (fun _ _ he => ih _ _ he)
          | halt x w2 => cases x <;> simp only [Oper.upon] at h ⊢ <;> first | exact h.elim | exact h.2.elim | skip
        · rename_i hwt
          rw [if_neg hwt] at h
          exact ih _ _ h
  exact mono _ _ _ hS
end Go.Rx
end

section
namespace Go.Rx
def lastDefer (ops : List Oper) : Bool := match ops[ops.length - 1]? with
  | some o => match o.op with
    | .defer _ => true
    | _ => false
  | none => false
def exR (cfg : Cfg) (nt : Nat) : Code → Env → Heap → (Env → Heap → Prop) → Prop
  | .ret, env, H, K => K env H
  | .skip, env, H, K => K env H
  | .region _ ops draw, env, H, K => match draw with
    | false => exOps cfg nt none qm0 (fun _ => true) none ops.toList (List.range ops.toList.length) env H K
    | true => False
  | .seq a b, env, H, K => match a with
    | .region _ ops draw => match draw with
      | false => exOps cfg nt none qm0 (fun _ => true) none ops.toList (List.range ops.toList.length) env H (fun env H => exR cfg nt b env H K)
      | true => False
    | _ => False
  | _, _, _, _ => False
def exDf (cfg : Cfg) (nt : Nat) (sd : FuncId → Option Spec) (fin : Env → Heap → Prop) (ops : List Oper) (c1 : Code) (env : Env) (H : Heap) : Prop :=
  match ops[ops.length - 1]? with
  | some o => match o.guard with
    | none => match o.op with
      | .defer c => match c.callee with
        | .value f => bif c.args.toList.isEmpty then exOps cfg nt none qm0 (fun _ => true) none ops (List.range (ops.length - 1)) env H fun env H => match ev env f with
          | .fn g caps => match sd g with
            | some s => exR cfg nt c1 (updO nt env o.dst (.ext undef)) H fun env H => callC s caps H none fun _ H => fin env H
            | none => False
          | _ => False
          else False
        | _ => False
      | _ => False
    | _ => False
  | none => False
def isDefR : Code → Bool
  | .region _ ops false => lastDefer ops.toList
  | _ => false
def opsOf : Code → List Oper
  | .region _ ops _ => ops.toList
  | _ => []
def exS (cfg : Cfg) (cx : Cx) (sd : FuncId → Option Spec) (fin : Env → Heap → Prop) : Code → Env → Heap → Prop
  | .seq a b, env, H => bif isDefR a then exDf cfg cx.nt sd fin (opsOf a) b env H else
      ex cfg cx a env H fun e env H => match e with
        | .normal => exS cfg cx sd fin b env H
        | .ret => fin env H
        | .exit _ => False
  | _, _, _ => False
def exFD (cfg : Cfg) (sd : FuncId → Option Spec) (fn : Func) (args : List V) (H : Heap) (K : V → Heap → Prop) : Prop :=
  match fn.body with
  | some c => exS cfg (cxOf fn args H) sd (retK cfg fn H.length K .normal) c (argEnv args) H
  | none => False
variable {cfg : Cfg} {ρ : List Value} {F : Nat → List Nat} {H : Heap} {w : World}
theorem exR_sound (ok : CfgOK cfg) (hsig : ∀ g s, cfg.sigs g = some s → SpecOK cfg.P cfg.elT g s) {nt : Nat} {ds : List Deferred} : ∀ (c : Code) (K : Env → Heap → Prop) (env : Env) (H : Heap) (ρ : List Value) (F : Nat → List Nat) (a : Act) (w : World),
    exR cfg nt c env H K → St cfg nt ds ρ F env H a w → c.wp cfg.P (fun e a' w' => (e = .normal ∨ e = .ret) ∧ ∃ ρ' F' env' H', St cfg nt ds ρ' F' env' H' a' w' ∧ Step cfg none ρ F H w ρ' F' H' w' ∧ K env' H') a w := by
  intro c
  induction c with
  | ret => intro K env H ρ F a w h hs; exact wp_ret ⟨.inr rfl, ρ, F, env, H, hs, .refl hs.sat, h⟩
  | skip => intro K env H ρ F a w h hs; exact wp_skip ⟨.inl rfl, ρ, F, env, H, hs, .refl hs.sat, h⟩
  | region id ops draw =>
    intro K env H ρ F a w h hs
    cases draw with
    | true => exact h.elim
    | false =>
      have h : exOps cfg nt none qm0 (fun _ => true) none ops.toList (List.range ops.toList.length) env H K := h
      rw [Array.length_toList] at h
      exact wp_region (exOps_wpOps ok hsig _ ρ F H w env a h hs (fun ρ' F' H' w' env' a' h1 h2 h3 => ⟨.inl rfl, ρ', F', env', H', h2, h3, h1⟩))
  | seq x y ihx ihy =>
    intro K env H ρ F a w h hs
    cases x with
    | region id ops draw =>
      cases draw with
      | true => exact h.elim
      | false =>
        have h : exOps cfg nt none qm0 (fun _ => true) none ops.toList (List.range ops.toList.length) env H (fun env H => exR cfg nt y env H K) := h
        rw [Array.length_toList] at h
        refine wp_seq (wp_region (exOps_wpOps ok hsig _ ρ F H w env a h hs (fun ρ' F' H' w' env' a' h1 h2 h3 => ?_)))
        refine wp_mono (ihy K env' H' ρ' F' a' w' h1 h2) (fun e a2 w2 hq => ?_)
        obtain ⟨q1, ρ2, F2, env2, H2, q2, q3, q4⟩ := hq
        exact ⟨q1, ρ2, F2, env2, H2, q2, h3.trans q3, q4⟩
    | _ => exact h.elim
  | _ => intro K env H ρ F a w h hs; exact h.elim
theorem exS_sound (ok : CfgOK cfg) (hsig : ∀ g s, cfg.sigs g = some s → SpecOK cfg.P cfg.elT g s) {sd : FuncId → Option Spec} (hsd : ∀ g s, sd g = some s → SpecDOK cfg.P cfg.elT g s)
    {fn : Func} {args : List V} {H0 : Heap} {K : V → Heap → Prop} {ρ0 : List Value} {F0 : Nat → List Nat} {w0 : World} (hsat0 : Sat cfg.elT ρ0 F0 H0 w0) :
    ∀ (c : Code) (env : Env) (H : Heap) (ρ : List Value) (F : Nat → List Nat) (a : Act) (w : World), exS cfg (cxOf fn args H0) sd (retK cfg fn H0.length K .normal) c env H → St0 cfg (cxOf fn args H0) [] ρ0 F0 H0 w0 ρ F env H a w →
      c.wp cfg.P (bodyPostD cfg.P fn fun e w' => ∃ v x ρ' F' H', e = .returned x ∧ K v H' ∧ Rel ρ' v x ∧ Le ρ0 ρ' ∧ Sat cfg.elT ρ' F' H' w' ∧ Fr H0 F0 w0 H' F' w') a w := by
  have hp : (cxOf fn args H0).pins ≤ ρ0.length := by rw [hsat0.len]; exact Nat.le_refl _
  have fin0 : ∀ (ρ : List Value) (F : Nat → List Nat) (env : Env) (H : Heap) (a : Act) (w : World) (ds : List Deferred), St0 cfg (cxOf fn args H0) ds ρ0 F0 H0 w0 ρ F env H a w → retK cfg fn H0.length K .normal env H →
      Leaves cfg.P fn a.tmps (fun e w' => ∃ v x ρ' F' H', e = .returned x ∧ K v H' ∧ Rel ρ' v x ∧ Le ρ0 ρ' ∧ Sat cfg.elT ρ' F' H' w' ∧ Fr H0 F0 w0 H' F' w') [] .returning w := by
    intro ρ F env H a w ds hs hr
    obtain ⟨v, hv, hrest⟩ := ret_sound hsat0 hs hr
    exact ⟨v, hv, hrest⟩
  intro c
  induction c with
  | seq x y ihx ihy =>
    intro env H ρ F a w h hs
    simp only [exS] at h
    cases hd : isDefR x with
    | false =>
      rw [hd] at h
      simp only [cond_false] at h
      refine wp_seq (wp_mono (y40 ok hsig hp x _ env H ρ F a w h hs) (fun e a' w' hq => ?_))
      cases e with
      | normal => obtain ⟨ρ', F', env', H', h1, h2⟩ := hq; exact ihy env' H' ρ' F' a' w' h2 h1
      | ret =>
        obtain ⟨ρ', F', env', H', h1, h2⟩ := hq
        show Leaves cfg.P fn a'.tmps _ a'.defers .returning w'
        rw [h1.st.defers]
        exact fin0 ρ' F' env' H' a' w' [] h1 h2
      | exit i => obtain ⟨ρ', F', env', H', h1, h2⟩ := hq; exact h2.elim
      | goto l => exact hq.elim
      | panic ch => exact hq.elim
      | outgrown => exact hq.elim
    | true =>
      rw [hd] at h
      simp only [cond_true] at h
      cases x with
      | region id ops draw =>
        cases draw with
        | true => cases hd
        | false =>
          simp only [opsOf, exDf] at h
          split at h
          · rename_i o ho
            split at h
            · rename_i hg
              split at h
              · rename_i c hop
                obtain ⟨callee, cargs, cts⟩ := c
                split at h
                · rename_i f hcal
                  simp only at hcal
                  subst hcal
                  have hcd := cond_elim h
                  have hargs := list0 hcd.1
                  simp only at hargs
                  subst hargs
                  have h := hcd.2
                  have hsz : ops.toList.length = (ops.size - 1) + 1 := by
                    rw [Array.length_toList]
                    have := (List.getElem?_eq_some_iff.1 ho).1
                    rw [Array.length_toList] at this
                    omega
                  have ho' : ops[ops.size - 1]? = some o := by rw [← Array.getElem?_toList, ← Array.length_toList]; exact ho
                  rw [Array.length_toList] at h
                  refine wp_seq (wp_region ?_)
                  rw [show ops.size = (ops.size - 1) + 1 by rw [Array.length_toList] at hsz; exact hsz, List.range_succ]
                  have pre : ∀ (Q : Exit → Act → World → Prop) (l : List Nat) (j : Nat) (a : Act) (w : World), wpOps cfg.P ops (fun e a w => match e with | .normal => wpOps cfg.P ops Q [j] a w | e => Q e a w) l a w → (¬ ∃ a w, Q .outgrown a w) → wpOps cfg.P ops Q (l ++ [j]) a w := by
                    intro Q l j
                    induction l with
                    | nil => intro a w h _; exact h
                    | cons i r ih =>
                      intro a w h hno
                      rw [List.cons_append, wpOps_cons]
                      rw [wpOps_cons] at h
                      unfold wpOp at h ⊢
                      split
                      · rename_i hn; rw [hn] at h; exact ih _ _ h hno
                      · rename_i oi hoi
                        rw [hoi] at h
                        simp only at h ⊢
                        split
                        · rename_i hwt
                          rw [if_pos hwt] at h
                          refine .inl ?_
                          have h := h.resolve_right (fun ⟨_, a', w', hq⟩ => hno ⟨a', w', hq⟩)
                          unfold Oper.wp at h ⊢
                          generalize (execOp a.eval oi).run cfg.P w = r at h ⊢
                          cases r with
                          | ok n w' =>
                            cases n <;> simp only [Oper.upon] at h ⊢
                            all_goals first
                              | exact h.elim
                              | exact ih _ _ h hno
                              | exact Calls.mono h (fun e w'' he => by cases e <;> first | exact ih _ _ he hno | exact he | (obtain ⟨a', w₀, hq⟩ := he; exact ⟨a', w₀, hq⟩))
                              | exact Rows.mono h (fun _ _ he => ih _ _ he hno)
                          | halt x w' => cases x <;> simp only [Oper.upon] at h ⊢ <;> exact h
                        · rename_i hwt
                          rw [if_neg hwt] at h
                          exact ih _ _ h hno
                  refine pre _ _ _ _ _ ?_ ?_
                  rotate_left
                  · rintro ⟨a', w', v, x, ρ', F', H', he, _⟩
                    cases he
                  refine exOps_wpOps (ds := []) ok hsig _ ρ F H w env a h hs.st (fun ρ1 F1 H1 w1 env1 a1 h1 h2 h3 => ?_)
                  simp only [wpOps, ho']
                  have hwt : Region.wanted o (yielded ops a1.tmps) = true := by unfold Region.wanted; rw [hg]
                  rw [if_pos hwt]
                  refine .inl ?_
                  split at h1
                  · rename_i g caps hgf
                    split at h1
                    · rename_i s hsg
                      have hfd := REnv.ev h2.env f
                      rw [hgf] at hfd
                      have hfd := hfd.den (by simp)
                      simp only [V.den] at hfd
                      split at hfd
                      · rename_i cs hcs
                        injection hfd with hfd
                        obtain ⟨⟨fg, f1, f2, f3⟩, hspec⟩ := hsd g s hsg
                        have hrun : (execOp a1.eval o).run cfg.P w1 = .ok (.defer { target := .fn (.func g) cs.toArray, args := #[] }) w1 := by
                          obtain ⟨dst, op, type, pos, after, guard⟩ := o
                          simp only at hop
                          subst hop
                          simp only [execOp, resolve, ← hfd, Deferred.ofValue, Sem.run_bind, Sem.run_pure, Result.andThen_ok]
                          simp
                        unfold Oper.wp
                        rw [hrun, Oper.upon_defer]
                        have hst2 : St cfg (cxOf fn args H0).nt [{ target := .fn (.func g) cs.toArray, args := #[] }] ρ1 F1 (updO (cxOf fn args H0).nt env1 o.dst (.ext undef)) H1 (({ a1 with defers := { target := .fn (.func g) cs.toArray, args := #[] } :: a1.defers } : Act).put o.dst undef) w1 := by
                          have := (h2.put (lk := none) (.refl h2.sat) (v := .ext undef) (x := undef) (.inr rfl) o.dst)
                          refine ⟨?_, ?_, ?_, h2.sat⟩
                          · have e := this.env
                            cases hdst : o.dst with
                            | none => rw [hdst] at e; exact e
                            | some d => rw [hdst] at e; exact e
                          · have e := this.size
                            cases hdst : o.dst with
                            | none => rw [hdst] at e; exact e
                            | some d => rw [hdst] at e; exact e
                          · cases hdst : o.dst with
                            | none => show _ :: a1.defers = _; rw [h2.defers]
                            | some d => show _ :: a1.defers = _; rw [h2.defers]
                        show (y.wp cfg.P _ _ w1)
                        refine wp_mono (exR_sound ok hsig y _ _ H1 ρ1 F1 _ w1 h1 hst2) (fun e a2 w2 hq => ?_)
                        obtain ⟨q1, ρ2, F2, env2, H2, q2, q3, q4⟩ := hq
                        have hcs2 : denL ρ2 caps = some cs := denL_le q3.le _ _ hcs
                        have hend : Leaves cfg.P fn a2.tmps (fun e w' => ∃ v x ρ' F' H', e = .returned x ∧ K v H' ∧ Rel ρ' v x ∧ Le ρ0 ρ' ∧ Sat cfg.elT ρ' F' H' w' ∧ Fr H0 F0 w0 H' F' w') a2.defers .returning w2 := by
                          rw [q2.defers]
                          refine leaves_cons (by simp) (f := g) (args := cs.toArray) ?_ ?_
                          · simp only [invoke, run_callFunc f1 f2 f3]
                            simp
                          · have hcall := callC_gen (cfg := cfg) (lk := none) (fun _ h => by cases h) (s := s) (vals := cs) (w := w2) (fun R => CallsD cfg.P g cs.toArray .returning w2 fun e u' w' => u' = .returning ∧ R e w')
                              (fun R R' hr hm => hr.mono fun e u' w' ⟨h1, h2⟩ => ⟨h1, hm e w' h2⟩) (fun args H K htr ρ F hd hs => hspec args H K htr ρ F w2 cs hd hs) q4 hcs2 q2.sat
                            refine hcall.mono ?_
                            rintro e u' w' ⟨rfl, v, x, ρ3, F3, H3, rfl, g1, g2, g3⟩
                            show Leaves cfg.P fn a2.tmps _ [] .returning w'
                            have hst3 : St cfg (cxOf fn args H0).nt [{ target := .fn (.func g) cs.toArray, args := #[] }] ρ3 F3 env2 H3 a2 w' := ⟨fun t => (q2.env t).le g3.le, q2.size, q2.defers, g3.sat⟩
                            refine fin0 ρ3 F3 env2 H3 a2 w' _ ⟨hst3, ((hs.fr.trans h3.fr).trans q3.fr).trans g3.fr, fun i hi => ?_⟩ g1
                            have hpi := hs.pins i hi
                            have hil : i < ρ0.length := by omega
                            rw [List.getElem?_eq_getElem hil] at hpi ⊢
                            exact g3.le _ _ (q3.le _ _ (h3.le _ _ hpi))
                        rcases q1 with rfl | rfl
                        · exact hend
                        · exact hend
                      · cases hfd
                    · exact h1.elim
                  · exact h1.elim
                · exact h.elim
              · exact h.elim
            · exact h.elim
          · exact h.elim
      | _ => cases hd
  | _ => intro env H ρ F a w h hs; exact h.elim
theorem spec_of_exFD (ok : CfgOK cfg) (hsig : ∀ g s, cfg.sigs g = some s → SpecOK cfg.P cfg.elT g s) {sd : FuncId → Option Spec} (hsd : ∀ g s, sd g = some s → SpecDOK cfg.P cfg.elT g s)
    {g : FuncId} {fn : Func} {s : Spec} (hg : cfg.P.funcs[g]? = some fn) (hname : (fn.name == "runtime.NumGoroutine") = false) (hb : fn.body.isNone = false)
    (h : ∀ (args : List V) (H : Heap) (K : V → Heap → Prop), s.tr args H K → exFD cfg sd fn args H K) : SpecOK cfg.P cfg.elT g s := by
  refine ⟨⟨fn, hg, hname, hb⟩, fun args H K htr ρ F w vals hden hsat => ?_⟩
  have hex := h args H K htr
  cases hc : fn.body with
  | none => rw [hc] at hb; cases hb
  | some c =>
    unfold exFD at hex
    rw [hc] at hex
    have hlen := denL_len hden
    have hst : St cfg (cxOf fn args H).nt [] ρ F (argEnv args) H { tmps := vals.toArray ++ Array.replicate (fn.ntmps - vals.toArray.size) undef, defers := [] } w :=
      ⟨argEnv_rel hden _, by simp [cxOf, hlen], rfl, hsat⟩
    exact calls_of_wp_defers hg hc (exS_sound ok hsig hsd hsat c _ H ρ F _ w hex ⟨hst, Fr.refl, fun _ _ => rfl⟩)
end Go.Rx
end

section
namespace Go.Rx
def So {α : Type} (o : Option α) (k : α → Prop) : Prop := match o with | none => False | some x => k x
variable {α β : Type} {F : α → Prop} {A B : Prop}
theorem So_imp {α : Type} {F A : α → Prop} {o : Option α} (h : So o F) (p : ∀ x, F x → A x) : So o A := by
  cases o with
  | none => exact h.elim
  | some x => exact p x h
theorem So_eq {o : Option α} {x : α} (h : o = some x) (hk : F x) : So o F := by subst h; exact hk
theorem br_So {c : Bool} {X Y : Option α} (p : So X F → A) (q : So Y F → B) : So (bif c then X else Y) F → br c A B := by
  cases c with
  | true => exact p
  | false => exact q
theorem req_So {c : Bool} {X : Option α} (p : So X F → A) : So (bif c then X else none) F → Req c A := by
  cases c with
  | true => exact p
  | false => exact fun h => h.elim
theorem bind_So {o : Option β} {X : β → Option α} {A : β → Prop} (p : ∀ x, So (X x) F → A x) : So (o.bind X) F → So o A := by
  cases o with
  | none => exact fun h => h.elim
  | some x => exact p x
theorem alt_So {X : Option α} (p : So X F → A) (q : So X F → B) : So X F → A ∧ B := fun h => ⟨p h, q h⟩
theorem all_So {τ : Type} {X : Option α} {A : τ → Prop} (p : ∀ y, So X F → A y) : So X F → ∀ y, A y := fun h y => p y h
def iterO {σ ρ : Type} (step : σ → Option (σ ⊕ ρ)) : Nat → σ → Option ρ
  | 0, _ => none
  | n + 1, s => match step s with
    | none => none
    | some (.inl s') => iterO step n s'
    | some (.inr r) => some r
section
variable {σ ρ : Type} {step : σ → Option (σ ⊕ ρ)}
theorem iterO_succ : ∀ {n : Nat} {s : σ} {r : ρ}, iterO step n s = some r → iterO step (n + 1) s = some r
  | 0, _, _, h => by cases h
  | n + 1, s, r, h => by
    unfold iterO at h ⊢
    cases hs : step s with
    | none => rw [hs] at h; cases h
    | some x =>
      rw [hs] at h
      cases x with
      | inl s' => exact iterO_succ (n := n) h
      | inr y => exact h
theorem iterO_le {m n : Nat} (hmn : m ≤ n) {s : σ} {r : ρ} (h : iterO step m s = some r) : iterO step n s = some r := by
  obtain ⟨k, rfl⟩ := Nat.exists_eq_add_of_le hmn
  induction k with
  | zero => exact h
  | succ k ih => exact iterO_succ (ih (by omega))
noncomputable def loopO (step : σ → Option (σ ⊕ ρ)) (s : σ) : Option ρ :=
  open Classical in if h : ∃ n r, iterO step n s = some r then iterO step (Classical.choose h) s else none
theorem loopO_of {n : Nat} {s : σ} {r : ρ} (h : iterO step n s = some r) : loopO step s = some r := by
  have hx : ∃ n r, iterO step n s = some r := ⟨n, r, h⟩
  unfold loopO
  rw [dif_pos hx]
  obtain ⟨r', hr'⟩ := Classical.choose_spec hx
  rw [hr']
  have h1 := iterO_le (Nat.le_max_left n (Classical.choose hx)) h
  have h2 := iterO_le (Nat.le_max_right n (Classical.choose hx)) hr'
  rw [h1] at h2
  exact h2.symm
theorem loopO_ex {s : σ} {r : ρ} (h : loopO step s = some r) : ∃ n, iterO step n s = some r := by
  unfold loopO at h
  split at h
  · exact ⟨_, h⟩
  · cases h
theorem loopO_eq (s : σ) : loopO step s = (match step s with | none => none | some (.inl s') => loopO step s' | some (.inr r) => some r) := by
  cases hs : step s with
  | none =>
    cases h : loopO step s with
    | none => rfl
    | some r =>
      obtain ⟨n, hn⟩ := loopO_ex h
      cases n with
      | zero => cases hn
      | succ n => unfold iterO at hn; rw [hs] at hn; cases hn
  | some x =>
    cases x with
    | inr r => exact loopO_of (n := 1) (by unfold iterO; rw [hs])
    | inl s' =>
      show loopO step s = loopO step s'
      cases h' : loopO step s' with
      | some r =>
        obtain ⟨n, hn⟩ := loopO_ex h'
        exact loopO_of (n := n + 1) (by unfold iterO; rw [hs]; exact hn)
      | none =>
        cases h : loopO step s with
        | none => rfl
        | some r =>
          obtain ⟨n, hn⟩ := loopO_ex h
          cases n with
          | zero => cases hn
          | succ n =>
            unfold iterO at hn; rw [hs] at hn
            rw [loopO_of hn] at h'; cases h'
theorem loopO_go {s s' : σ} (h : step s = some (.inl s')) : loopO step s = loopO step s' := by rw [loopO_eq, h]
theorem loopO_end {s : σ} {r : ρ} (h : step s = some (.inr r)) : loopO step s = some r := by rw [loopO_eq, h]
theorem loop_So {cfg : Cfg} {cx : Cx} {c : Code} {K : Ex → Env → Heap → Prop} (E : σ → Env) (Hp : σ → Heap) (G : ρ → Prop)
    (round : ∀ (s : σ) (J : Env → Heap → Prop), So (step s) (fun x => match x with | .inl s' => J (E s') (Hp s') | .inr r => G r) → ex cfg cx c (E s) (Hp s) (roundK cfg cx c K J)) (s : σ) :
    So (loopO step s) G → Loop cfg cx c (E s) (Hp s) K := by
  intro h
  cases hl : loopO step s with
  | none => rw [hl] at h; exact h.elim
  | some r =>
    rw [hl] at h
    obtain ⟨n, hn⟩ := loopO_ex hl
    have key : ∀ n s, iterO step n s = some r → loopM c (ex cfg cx c) (gcO cx.pins (cfg.keep (firstRegion c))) K n (E s) (Hp s) := by
      intro n
      induction n with
      | zero => intro s hn; cases hn
      | succ n ih =>
        intro s hn
        unfold iterO at hn
        refine round s _ ?_
        cases hs : step s with
        | none => rw [hs] at hn; cases hn
        | some x =>
          rw [hs] at hn
          cases x with
          | inl s' => exact ih s' hn
          | inr y => injection hn with hn; subst hn; exact h
    exact ⟨n, key n s hn⟩
end
def aInt (v : V) (k : Int → Prop) : Prop := match v with | .ext (.int .i64 x) => k x | _ => False
def aBool (v : V) (k : Bool → Prop) : Prop := match v with | .ext (.bool x) => k x | _ => False
def aPtr (i : Nat) (v : V) (k : Prop) : Prop := match v with | .ptr j 0 => bif Nat.beq j i then k else False | _ => False
def aRow (i : Nat) (v : V) (k : Prop) : Prop := match v with | .row j => bif Nat.beq j i then k else False | _ => False
def aMp (i : Nat) (v : V) (k : Prop) : Prop := match v with | .mp j => bif Nat.beq j i then k else False | _ => False
def aAgg (v : V) (k : List V → Prop) : Prop := match v with | .agg cs => k cs | _ => False
def aNilS (v : V) (k : Prop) : Prop := match v with | .ext (.slice none 0 0) => k | _ => False
def aFn (g : FuncId) (v : V) (k : List V → Prop) : Prop := match v with | .fn f cs => bif Nat.beq f g then k cs else False | _ => False
def aC {α : Type} (l : List α) (k : α → List α → Prop) : Prop := match l with | a :: r => k a r | [] => False
def aN {α : Type} (l : List α) (k : Prop) : Prop := match l with | [] => k | _ => False
def bView (j : Nat) (b : Blk) (k : List Int → List Int → List Value → Prop) : Prop := match b with
  | .pk 0 [ws, cur] xs [.row i] => bif Nat.beq i j then k ws cur xs else False
  | _ => False
def bRow (tg : Nat) (ro : Bool) (b : Blk) (k : List (El tg) → Prop) : Prop := match b with
  | .row t l r => if h : t = tg then (bif r == ro then k (h ▸ l) else False) else False
  | _ => False
def bCells (b : Blk) (k : TypeId → List V → Prop) : Prop := match b with | .cells T cs => k T cs | _ => False
theorem aInt_el {v : V} {k : Int → Prop} (h : aInt v k) : ∃ x, v = vi x ∧ k x := by
  unfold aInt at h
  split at h
  · exact ⟨_, rfl, h⟩
  · exact h.elim
theorem aBool_el {v : V} {k : Bool → Prop} (h : aBool v k) : ∃ x, v = vb x ∧ k x := by
  unfold aBool at h
  split at h
  · exact ⟨_, rfl, h⟩
  · exact h.elim
theorem beq_el {i j : Nat} {k : Prop} (h : bif Nat.beq j i then k else False) : j = i ∧ k := by
  cases hb : Nat.beq j i with
  | true => rw [hb] at h; exact ⟨Nat.eq_of_beq_eq_true hb, h⟩
  | false => rw [hb] at h; exact h.elim
theorem aPtr_el {i : Nat} {v : V} {k : Prop} (h : aPtr i v k) : v = .ptr i 0 ∧ k := by
  unfold aPtr at h
  split at h
  · obtain ⟨e, h2⟩ := beq_el h; subst e; exact ⟨rfl, h2⟩
  · exact h.elim
theorem aRow_el {i : Nat} {v : V} {k : Prop} (h : aRow i v k) : v = .row i ∧ k := by
  unfold aRow at h
  split at h
  · obtain ⟨e, h2⟩ := beq_el h; subst e; exact ⟨rfl, h2⟩
  · exact h.elim
theorem aMp_el {i : Nat} {v : V} {k : Prop} (h : aMp i v k) : v = .mp i ∧ k := by
  unfold aMp at h
  split at h
  · obtain ⟨e, h2⟩ := beq_el h; subst e; exact ⟨rfl, h2⟩
  · exact h.elim
theorem aNilS_el {v : V} {k : Prop} (h : aNilS v k) : v = .ext (.slice none 0 0) ∧ k := by
  unfold aNilS at h
  split at h
  · exact ⟨rfl, h⟩
  · exact h.elim
theorem aFn_el {g : FuncId} {v : V} {k : List V → Prop} (h : aFn g v k) : ∃ cs, v = .fn g cs ∧ k cs := by
  unfold aFn at h
  split at h
  · obtain ⟨e, h2⟩ := beq_el h; subst e; exact ⟨_, rfl, h2⟩
  · exact h.elim
theorem aAgg_el {v : V} {k : List V → Prop} (h : aAgg v k) : ∃ cs, v = .agg cs ∧ k cs := by
  unfold aAgg at h
  split at h
  · exact ⟨_, rfl, h⟩
  · exact h.elim
theorem aC_el {α : Type} {l : List α} {k : α → List α → Prop} (h : aC l k) : ∃ a r, l = a :: r ∧ k a r := by
  unfold aC at h
  split at h
  · exact ⟨_, _, rfl, h⟩
  · exact h.elim
theorem aN_el {α : Type} {l : List α} {k : Prop} (h : aN l k) : l = [] ∧ k := by
  unfold aN at h
  split at h
  · exact ⟨rfl, h⟩
  · exact h.elim
theorem bView_el {j : Nat} {b : Blk} {k : List Int → List Int → List Value → Prop} (h : bView j b k) : ∃ ws cur xs, b = .pk 0 [ws, cur] xs [.row j] ∧ k ws cur xs := by
  unfold bView at h
  split at h
  · obtain ⟨e, h2⟩ := beq_el h; subst e; exact ⟨_, _, _, rfl, h2⟩
  · exact h.elim
theorem bRow_el {tg : Nat} {ro : Bool} {b : Blk} {k : List (El tg) → Prop} (h : bRow tg ro b k) : ∃ l, b = .row tg l ro ∧ k l := by
  unfold bRow at h
  split at h
  · rename_i t l r
    split at h
    · rename_i e
      subst e
      cases hr : r == ro with
      | true => rw [hr] at h; rw [eq_of_beq hr]; exact ⟨_, rfl, h⟩
      | false => rw [hr] at h; exact h.elim
    · exact h.elim
  · exact h.elim
theorem bCells_el {b : Blk} {k : TypeId → List V → Prop} (h : bCells b k) : ∃ T cs, b = .cells T cs ∧ k T cs := by
  unfold bCells at h
  split at h
  · exact ⟨_, _, rfl, h⟩
  · exact h.elim
abbrev hV (ws cur : List Int) (xs : List Value) : Heap := [.pk 0 [ws, cur] xs [.row 1], .row 0 ws true]
class Des (P : Prop) (Q : outParam Prop) : Prop where
  el : P → Q
section
variable {α : Type}
instance (v : V) (k : Int → Prop) : Des (aInt v k) (∃ x, v = vi x ∧ k x) := ⟨aInt_el⟩
instance (v : V) (k : Bool → Prop) : Des (aBool v k) (∃ x, v = vb x ∧ k x) := ⟨aBool_el⟩
instance (i : Nat) (v : V) (k : Prop) : Des (aPtr i v k) (v = .ptr i 0 ∧ k) := ⟨aPtr_el⟩
instance (i : Nat) (v : V) (k : Prop) : Des (aRow i v k) (v = .row i ∧ k) := ⟨aRow_el⟩
instance (i : Nat) (v : V) (k : Prop) : Des (aMp i v k) (v = .mp i ∧ k) := ⟨aMp_el⟩
instance (v : V) (k : Prop) : Des (aNilS v k) (v = .ext (.slice none 0 0) ∧ k) := ⟨aNilS_el⟩
instance (g : FuncId) (v : V) (k : List V → Prop) : Des (aFn g v k) (∃ cs, v = .fn g cs ∧ k cs) := ⟨aFn_el⟩
instance (v : V) (k : List V → Prop) : Des (aAgg v k) (∃ cs, v = .agg cs ∧ k cs) := ⟨aAgg_el⟩
instance (l : List α) (k : α → List α → Prop) : Des (aC l k) (∃ a r, l = a :: r ∧ k a r) := ⟨aC_el⟩
instance (l : List α) (k : Prop) : Des (aN l k) (l = [] ∧ k) := ⟨aN_el⟩
instance (j : Nat) (b : Blk) (k : List Int → List Int → List Value → Prop) : Des (bView j b k) (∃ ws cur xs, b = .pk 0 [ws, cur] xs [.row j] ∧ k ws cur xs) := ⟨bView_el⟩
instance (tg : Nat) (ro : Bool) (b : Blk) (k : List (El tg) → Prop) : Des (bRow tg ro b k) (∃ l, b = .row tg l ro ∧ k l) := ⟨bRow_el⟩
instance (ro : Bool) (b : Blk) (k : List Int → Prop) : Des (bRow 0 ro b k) (∃ l : List Int, b = .row 0 l ro ∧ k l) := ⟨bRow_el⟩
instance (ro : Bool) (b : Blk) (k : List Bool → Prop) : Des (bRow 1 ro b k) (∃ l : List Bool, b = .row 1 l ro ∧ k l) := ⟨bRow_el⟩
instance (ro : Bool) (b : Blk) (k : List Pr → Prop) : Des (bRow 2 ro b k) (∃ l : List Pr, b = .row 2 l ro ∧ k l) := ⟨bRow_el⟩
instance (ro : Bool) (b : Blk) (k : List Ev → Prop) : Des (bRow 3 ro b k) (∃ l : List Ev, b = .row 3 l ro ∧ k l) := ⟨bRow_el⟩
instance (b : Blk) (k : TypeId → List V → Prop) : Des (bCells b k) (∃ T cs, b = .cells T cs ∧ k T cs) := ⟨bCells_el⟩
theorem andV {ws : List Int} {xs : List Value} {F : α → Prop} {X : Option α} {A : Prop} (hx : xs.length ≤ 2) (p : So X F → A) : So X F → ws = ws ∧ xs.length ≤ 2 ∧ A := fun h => ⟨rfl, hx, p h⟩
end
def rd (cur : List Int) (a : Int) : Int := cur.getD a.toNat 0
def wr (cur : List Int) (a x : Int) : List Int := cur.set a.toNat x
end Go.Rx
namespace Go.Rx
def sumK {σ ρ : Type} (f : σ → Prop) (g : ρ → Prop) : σ ⊕ ρ → Prop
  | .inl s => f s
  | .inr r => g r
theorem loopK_So {cfg : Cfg} {cx : Cx} {c : Code} {K : Ex → Env → Heap → Prop} {σ ρ : Type} {step : σ → Option (σ ⊕ ρ)} (E : σ → Env) (Hp : σ → Heap) (G : ρ → Prop)
    (round : ∀ (s : σ) (J : Env → Heap → Prop), So (step s) (sumK (fun s' => J (E s') (Hp s')) G) → ex cfg cx c (E s) (Hp s) (roundK cfg cx c K J)) (s : σ) :
    So (loopO step s) G → Loop cfg cx c (E s) (Hp s) K :=
  loop_So E Hp G (fun s J h => round s J (by
    cases hs : step s with
    | none => rw [hs] at h; exact h.elim
    | some x => rw [hs] at h; cases x <;> exact h)) s
def sigC (n : FuncId) (s : Spec) (f : FuncId → Option Spec) : FuncId → Option Spec := fun g => bif Nat.beq g n then some s else f g
def sigN : FuncId → Option Spec := fun _ => none
theorem yk {P : Program} {e : ET} : ∀ g s, sigN g = some s → SpecOK P e g s := fun _ _ h => by cases h
theorem yd {P : Program} {e : ET} {n : FuncId} {s0 : Spec} {f : FuncId → Option Spec} (h0 : SpecOK P e n s0) (h : ∀ g s, f g = some s → SpecOK P e g s) : ∀ g s, sigC n s0 f g = some s → SpecOK P e g s := by
  intro g s hs
  unfold sigC at hs
  cases hb : Nat.beq g n with
  | true => rw [hb] at hs; injection hs with hs; subst hs; rw [Nat.eq_of_beq_eq_true hb]; exact h0
  | false => rw [hb] at hs; exact h g s hs
end Go.Rx
end

section
namespace Go.Rx
open Go.Proofs
def tagT : TypeId → Option Nat := fun t => match t with | 24 => some 6 | 31 => some 0 | 34 => some 0 | 40 => some 2 | 48 => some 0 | 112 => some 38 | 113 => some 5 | _ => none
def elTT : ET := ⟨fun t => match t with | 0 => 3 | 1 => 4 | 2 => 77 | 5 => 136 | 6 => 38 | 14 => 23 | 38 => 111 | _ => 0, absView 40⟩
instance (ro : Bool) (b : Blk) (k : List (List Int) → Prop) : Des (bRow 5 ro b k) (∃ l : List (List Int), b = .row 5 l ro ∧ k l) := ⟨bRow_el⟩
instance (ro : Bool) (b : Blk) (k : List (List Int) → Prop) : Des (bRow 6 ro b k) (∃ l : List (List Int), b = .row 6 l ro ∧ k l) := ⟨bRow_el⟩
instance (ro : Bool) (b : Blk) (k : List (List Int) → Prop) : Des (bRow 38 ro b k) (∃ l : List (List Int), b = .row 38 l ro ∧ k l) := ⟨bRow_el⟩
noncomputable def cfgB : Cfg where
  P := Tryz.prog
  tagOf := tagT
  elT := elTT
  sigs := fun _ => none
  keep := fun _ => none
  keepB := fun _ => none
  plan := fun _ => none
theorem tags_ok : ∀ (t tg : Nat), tagT t = some tg → Tryz.prog.underlying t = some (.slice (elTT tg)) ∧ ∃ i z, Tryz.prog.info? (elTT tg) = some i ∧ i.zero = some z ∧ z.cells = (elEnc tg (elD tg)).toArray ∧ i.size = elM tg ∧ i.bytes ≤ 65536 := by
  intro t tg h
  unfold tagT at h
  split at h
  · injection h with h; subst h; exact tag_ok (by kernel_rfl) (by kernel_rfl) (by kernel_rfl) (by kernel_rfl) (by kernel_rfl) (by kernel_rfl)
  · injection h with h; subst h; exact tag_ok (by kernel_rfl) (by kernel_rfl) (by kernel_rfl) (by kernel_rfl) (by kernel_rfl) (by kernel_rfl)
  · injection h with h; subst h; exact tag_ok (by kernel_rfl) (by kernel_rfl) (by kernel_rfl) (by kernel_rfl) (by kernel_rfl) (by kernel_rfl)
  · injection h with h; subst h; exact tag_ok (by kernel_rfl) (by kernel_rfl) (by kernel_rfl) (by kernel_rfl) (by kernel_rfl) (by kernel_rfl)
  · injection h with h; subst h; exact tag_ok (by kernel_rfl) (by kernel_rfl) (by kernel_rfl) (by kernel_rfl) (by kernel_rfl) (by kernel_rfl)
  · injection h with h; subst h; exact tag_ok (by kernel_rfl) (by kernel_rfl) (by kernel_rfl) (by kernel_rfl) (by kernel_rfl) (by kernel_rfl)
  · injection h with h; subst h; exact tag_ok (by kernel_rfl) (by kernel_rfl) (by kernel_rfl) (by kernel_rfl) (by kernel_rfl) (by kernel_rfl)
  · cases h
theorem small_ok : ∀ (t tg : Nat), tagT t = some tg → elM tg ≤ 4096 := by
  intro t tg h
  unfold tagT at h
  split at h
  · injection h with h; subst h; decide
  · injection h with h; subst h; decide
  · injection h with h; subst h; decide
  · injection h with h; subst h; decide
  · injection h with h; subst h; decide
  · injection h with h; subst h; decide
  · injection h with h; subst h; decide
  · cases h
theorem mixed_ok : Tryz.prog.follows .mixedOrders = true := by kernel_rfl
theorem yg {cfg : Cfg} (h1 : cfg.P = Tryz.prog) (h2 : cfg.tagOf = tagT) (h3 : cfg.elT = elTT) : CfgOK cfg := by
  obtain ⟨P, tagOf, elT, a, b, c, d, e, f, g⟩ := cfg
  simp only at h1 h2 h3
  subst h1; subst h2; subst h3
  exact ⟨small_ok, tags_ok, mixed_ok⟩
theorem nosig {cfg : Cfg} (h : cfg.sigs = fun _ => none) : ∀ g s, cfg.sigs g = some s → SpecOK cfg.P cfg.elT g s := by
  intro g s hs; rw [h] at hs; cases hs
structure yb where
  mk ::
  Workers : Int
  CPUs : Int
  Pages : Int
  Stripes : Int
  Tries : Int
  Wait : Int
  Clock : Int
  Private : Int
  Cache : Int
  Bin : Int
  Batch : Int
def y1j (x : yb) : List V := [vi x.Workers, vi x.CPUs, vi x.Pages, vi x.Stripes, vi x.Tries, vi x.Wait, vi x.Clock, vi x.Private, vi x.Cache, vi x.Bin, vi x.Batch]
def y3e (cs : List V) (k : yb → Prop) : Prop := aC cs fun a0 r => aInt a0 fun x0 => aC r fun a1 r => aInt a1 fun x1 => aC r fun a2 r => aInt a2 fun x2 => aC r fun a3 r => aInt a3 fun x3 => aC r fun a4 r => aInt a4 fun x4 => aC r fun a5 r => aInt a5 fun x5 => aC r fun a6 r => aInt a6 fun x6 => aC r fun a7 r => aInt a7 fun x7 => aC r fun a8 r => aInt a8 fun x8 => aC r fun a9 r => aInt a9 fun x9 => aC r fun a10 r => aInt a10 fun x10 => aN r (k ⟨x0, x1, x2, x3, x4, x5, x6, x7, x8, x9, x10⟩)
theorem yeu {cs : List V} {k : yb → Prop} (h : y3e cs k) : ∃ x, cs = y1j x ∧ k x := by
  unfold y3e at h
  replace h := aC_el h
  obtain ⟨_, _, rfl, h⟩ := h
  replace h := aInt_el h
  obtain ⟨x0, rfl, h⟩ := h
  replace h := aC_el h
  obtain ⟨_, _, rfl, h⟩ := h
  replace h := aInt_el h
  obtain ⟨x1, rfl, h⟩ := h
  replace h := aC_el h
  obtain ⟨_, _, rfl, h⟩ := h
  replace h := aInt_el h
  obtain ⟨x2, rfl, h⟩ := h
  replace h := aC_el h
  obtain ⟨_, _, rfl, h⟩ := h
  replace h := aInt_el h
  obtain ⟨x3, rfl, h⟩ := h
  replace h := aC_el h
  obtain ⟨_, _, rfl, h⟩ := h
  replace h := aInt_el h
  obtain ⟨x4, rfl, h⟩ := h
  replace h := aC_el h
  obtain ⟨_, _, rfl, h⟩ := h
  replace h := aInt_el h
  obtain ⟨x5, rfl, h⟩ := h
  replace h := aC_el h
  obtain ⟨_, _, rfl, h⟩ := h
  replace h := aInt_el h
  obtain ⟨x6, rfl, h⟩ := h
  replace h := aC_el h
  obtain ⟨_, _, rfl, h⟩ := h
  replace h := aInt_el h
  obtain ⟨x7, rfl, h⟩ := h
  replace h := aC_el h
  obtain ⟨_, _, rfl, h⟩ := h
  replace h := aInt_el h
  obtain ⟨x8, rfl, h⟩ := h
  replace h := aC_el h
  obtain ⟨_, _, rfl, h⟩ := h
  replace h := aInt_el h
  obtain ⟨x9, rfl, h⟩ := h
  replace h := aC_el h
  obtain ⟨_, _, rfl, h⟩ := h
  replace h := aInt_el h
  obtain ⟨x10, rfl, h⟩ := h
  replace h := aN_el h
  obtain ⟨rfl, h⟩ := h
  exact ⟨⟨x0, x1, x2, x3, x4, x5, x6, x7, x8, x9, x10⟩, rfl, h⟩
instance (cs : List V) (k : yb → Prop) : Des (y3e cs k) (∃ x, cs = y1j x ∧ k x) := ⟨yeu⟩
structure ya where
  mk ::
  c : yb
  at_0 : Int
  at_1 : Int
  at_2 : Int
  at_3 : Int
  at_4 : Int
  at_5 : Int
  at_6 : Int
  at_7 : Int
  at_8 : Int
  at_9 : Int
  at_10 : Int
  at_11 : Int
def yc (x : ya) : List V := [vi x.c.Workers, vi x.c.CPUs, vi x.c.Pages, vi x.c.Stripes, vi x.c.Tries, vi x.c.Wait, vi x.c.Clock, vi x.c.Private, vi x.c.Cache, vi x.c.Bin, vi x.c.Batch, vi x.at_0, vi x.at_1, vi x.at_2, vi x.at_3, vi x.at_4, vi x.at_5, vi x.at_6, vi x.at_7, vi x.at_8, vi x.at_9, vi x.at_10, vi x.at_11]
def yq (cs : List V) (k : ya → Prop) : Prop := aC cs fun a0 r => aInt a0 fun x0 => aC r fun a1 r => aInt a1 fun x1 => aC r fun a2 r => aInt a2 fun x2 => aC r fun a3 r => aInt a3 fun x3 => aC r fun a4 r => aInt a4 fun x4 => aC r fun a5 r => aInt a5 fun x5 => aC r fun a6 r => aInt a6 fun x6 => aC r fun a7 r => aInt a7 fun x7 => aC r fun a8 r => aInt a8 fun x8 => aC r fun a9 r => aInt a9 fun x9 => aC r fun a10 r => aInt a10 fun x10 => aC r fun a11 r => aInt a11 fun x11 => aC r fun a12 r => aInt a12 fun x12 => aC r fun a13 r => aInt a13 fun x13 => aC r fun a14 r => aInt a14 fun x14 => aC r fun a15 r => aInt a15 fun x15 => aC r fun a16 r => aInt a16 fun x16 => aC r fun a17 r => aInt a17 fun x17 => aC r fun a18 r => aInt a18 fun x18 => aC r fun a19 r => aInt a19 fun x19 => aC r fun a20 r => aInt a20 fun x20 => aC r fun a21 r => aInt a21 fun x21 => aC r fun a22 r => aInt a22 fun x22 => aN r (k ⟨⟨x0, x1, x2, x3, x4, x5, x6, x7, x8, x9, x10⟩, x11, x12, x13, x14, x15, x16, x17, x18, x19, x20, x21, x22⟩)
theorem y4o {cs : List V} {k : ya → Prop} (h : yq cs k) : ∃ x, cs = yc x ∧ k x := by
  unfold yq at h
  replace h := aC_el h
  obtain ⟨_, _, rfl, h⟩ := h
  replace h := aInt_el h
  obtain ⟨x0, rfl, h⟩ := h
  replace h := aC_el h
  obtain ⟨_, _, rfl, h⟩ := h
  replace h := aInt_el h
  obtain ⟨x1, rfl, h⟩ := h
  replace h := aC_el h
  obtain ⟨_, _, rfl, h⟩ := h
  replace h := aInt_el h
  obtain ⟨x2, rfl, h⟩ := h
  replace h := aC_el h
  obtain ⟨_, _, rfl, h⟩ := h
  replace h := aInt_el h
  obtain ⟨x3, rfl, h⟩ := h
  replace h := aC_el h
  obtain ⟨_, _, rfl, h⟩ := h
  replace h := aInt_el h
  obtain ⟨x4, rfl, h⟩ := h
  replace h := aC_el h
  obtain ⟨_, _, rfl, h⟩ := h
  replace h := aInt_el h
  obtain ⟨x5, rfl, h⟩ := h
  replace h := aC_el h
  obtain ⟨_, _, rfl, h⟩ := h
  replace h := aInt_el h
  obtain ⟨x6, rfl, h⟩ := h
  replace h := aC_el h
  obtain ⟨_, _, rfl, h⟩ := h
  replace h := aInt_el h
  obtain ⟨x7, rfl, h⟩ := h
  replace h := aC_el h
  obtain ⟨_, _, rfl, h⟩ := h
  replace h := aInt_el h
  obtain ⟨x8, rfl, h⟩ := h
  replace h := aC_el h
  obtain ⟨_, _, rfl, h⟩ := h
  replace h := aInt_el h
  obtain ⟨x9, rfl, h⟩ := h
  replace h := aC_el h
  obtain ⟨_, _, rfl, h⟩ := h
  replace h := aInt_el h
  obtain ⟨x10, rfl, h⟩ := h
  replace h := aC_el h
  obtain ⟨_, _, rfl, h⟩ := h
  replace h := aInt_el h
  obtain ⟨x11, rfl, h⟩ := h
  replace h := aC_el h
  obtain ⟨_, _, rfl, h⟩ := h
  replace h := aInt_el h
  obtain ⟨x12, rfl, h⟩ := h
  replace h := aC_el h
  obtain ⟨_, _, rfl, h⟩ := h
  replace h := aInt_el h
  obtain ⟨x13, rfl, h⟩ := h
  replace h := aC_el h
  obtain ⟨_, _, rfl, h⟩ := h
  replace h := aInt_el h
  obtain ⟨x14, rfl, h⟩ := h
  replace h := aC_el h
  obtain ⟨_, _, rfl, h⟩ := h
  replace h := aInt_el h
  obtain ⟨x15, rfl, h⟩ := h
  replace h := aC_el h
  obtain ⟨_, _, rfl, h⟩ := h
  replace h := aInt_el h
  obtain ⟨x16, rfl, h⟩ := h
  replace h := aC_el h
  obtain ⟨_, _, rfl, h⟩ := h
  replace h := aInt_el h
  obtain ⟨x17, rfl, h⟩ := h
  replace h := aC_el h
  obtain ⟨_, _, rfl, h⟩ := h
  replace h := aInt_el h
  obtain ⟨x18, rfl, h⟩ := h
  replace h := aC_el h
  obtain ⟨_, _, rfl, h⟩ := h
  replace h := aInt_el h
  obtain ⟨x19, rfl, h⟩ := h
  replace h := aC_el h
  obtain ⟨_, _, rfl, h⟩ := h
  replace h := aInt_el h
  obtain ⟨x20, rfl, h⟩ := h
  replace h := aC_el h
  obtain ⟨_, _, rfl, h⟩ := h
  replace h := aInt_el h
  obtain ⟨x21, rfl, h⟩ := h
  replace h := aC_el h
  obtain ⟨_, _, rfl, h⟩ := h
  replace h := aInt_el h
  obtain ⟨x22, rfl, h⟩ := h
  replace h := aN_el h
  obtain ⟨rfl, h⟩ := h
  exact ⟨⟨⟨x0, x1, x2, x3, x4, x5, x6, x7, x8, x9, x10⟩, x11, x12, x13, x14, x15, x16, x17, x18, x19, x20, x21, x22⟩, rfl, h⟩
instance (cs : List V) (k : ya → Prop) : Des (yq cs k) (∃ x, cs = yc x ∧ k x) := ⟨y4o⟩
structure yf where
  mk ::
  C : yb
def y39 (x : yf) : List V := [vi x.C.Workers, vi x.C.CPUs, vi x.C.Pages, vi x.C.Stripes, vi x.C.Tries, vi x.C.Wait, vi x.C.Clock, vi x.C.Private, vi x.C.Cache, vi x.C.Bin, vi x.C.Batch]
def y38 (cs : List V) (k : yf → Prop) : Prop := aC cs fun a0 r => aInt a0 fun x0 => aC r fun a1 r => aInt a1 fun x1 => aC r fun a2 r => aInt a2 fun x2 => aC r fun a3 r => aInt a3 fun x3 => aC r fun a4 r => aInt a4 fun x4 => aC r fun a5 r => aInt a5 fun x5 => aC r fun a6 r => aInt a6 fun x6 => aC r fun a7 r => aInt a7 fun x7 => aC r fun a8 r => aInt a8 fun x8 => aC r fun a9 r => aInt a9 fun x9 => aC r fun a10 r => aInt a10 fun x10 => aN r (k ⟨⟨x0, x1, x2, x3, x4, x5, x6, x7, x8, x9, x10⟩⟩)
theorem yey {cs : List V} {k : yf → Prop} (h : y38 cs k) : ∃ x, cs = y39 x ∧ k x := by
  unfold y38 at h
  replace h := aC_el h
  obtain ⟨_, _, rfl, h⟩ := h
  replace h := aInt_el h
  obtain ⟨x0, rfl, h⟩ := h
  replace h := aC_el h
  obtain ⟨_, _, rfl, h⟩ := h
  replace h := aInt_el h
  obtain ⟨x1, rfl, h⟩ := h
  replace h := aC_el h
  obtain ⟨_, _, rfl, h⟩ := h
  replace h := aInt_el h
  obtain ⟨x2, rfl, h⟩ := h
  replace h := aC_el h
  obtain ⟨_, _, rfl, h⟩ := h
  replace h := aInt_el h
  obtain ⟨x3, rfl, h⟩ := h
  replace h := aC_el h
  obtain ⟨_, _, rfl, h⟩ := h
  replace h := aInt_el h
  obtain ⟨x4, rfl, h⟩ := h
  replace h := aC_el h
  obtain ⟨_, _, rfl, h⟩ := h
  replace h := aInt_el h
  obtain ⟨x5, rfl, h⟩ := h
  replace h := aC_el h
  obtain ⟨_, _, rfl, h⟩ := h
  replace h := aInt_el h
  obtain ⟨x6, rfl, h⟩ := h
  replace h := aC_el h
  obtain ⟨_, _, rfl, h⟩ := h
  replace h := aInt_el h
  obtain ⟨x7, rfl, h⟩ := h
  replace h := aC_el h
  obtain ⟨_, _, rfl, h⟩ := h
  replace h := aInt_el h
  obtain ⟨x8, rfl, h⟩ := h
  replace h := aC_el h
  obtain ⟨_, _, rfl, h⟩ := h
  replace h := aInt_el h
  obtain ⟨x9, rfl, h⟩ := h
  replace h := aC_el h
  obtain ⟨_, _, rfl, h⟩ := h
  replace h := aInt_el h
  obtain ⟨x10, rfl, h⟩ := h
  replace h := aN_el h
  obtain ⟨rfl, h⟩ := h
  exact ⟨⟨⟨x0, x1, x2, x3, x4, x5, x6, x7, x8, x9, x10⟩⟩, rfl, h⟩
instance (cs : List V) (k : yf → Prop) : Des (y38 cs k) (∃ x, cs = y39 x ∧ k x) := ⟨yey⟩
structure yj where
  mk ::
  Kind : Int
  C : Int
  N : Int
def y53 (x : yj) : List V := [vi x.Kind, vi x.C, vi x.N]
def y4w (cs : List V) (k : yj → Prop) : Prop := aC cs fun a0 r => aInt a0 fun x0 => aC r fun a1 r => aInt a1 fun x1 => aC r fun a2 r => aInt a2 fun x2 => aN r (k ⟨x0, x1, x2⟩)
theorem yhv {cs : List V} {k : yj → Prop} (h : y4w cs k) : ∃ x, cs = y53 x ∧ k x := by
  unfold y4w at h
  replace h := aC_el h
  obtain ⟨_, _, rfl, h⟩ := h
  replace h := aInt_el h
  obtain ⟨x0, rfl, h⟩ := h
  replace h := aC_el h
  obtain ⟨_, _, rfl, h⟩ := h
  replace h := aInt_el h
  obtain ⟨x1, rfl, h⟩ := h
  replace h := aC_el h
  obtain ⟨_, _, rfl, h⟩ := h
  replace h := aInt_el h
  obtain ⟨x2, rfl, h⟩ := h
  replace h := aN_el h
  obtain ⟨rfl, h⟩ := h
  exact ⟨⟨x0, x1, x2⟩, rfl, h⟩
instance (cs : List V) (k : yj → Prop) : Des (y4w cs k) (∃ x, cs = y53 x ∧ k x) := ⟨yhv⟩
structure y03 where
  mk ::
  n : Int
  low : Int
  high : Int
def y7k (x : y03) : List V := [vi x.n, vi x.low, vi x.high]
def y5b (cs : List V) (k : y03 → Prop) : Prop := aC cs fun a0 r => aInt a0 fun x0 => aC r fun a1 r => aInt a1 fun x1 => aC r fun a2 r => aInt a2 fun x2 => aN r (k ⟨x0, x1, x2⟩)
theorem yge {cs : List V} {k : y03 → Prop} (h : y5b cs k) : ∃ x, cs = y7k x ∧ k x := by
  unfold y5b at h
  replace h := aC_el h
  obtain ⟨_, _, rfl, h⟩ := h
  replace h := aInt_el h
  obtain ⟨x0, rfl, h⟩ := h
  replace h := aC_el h
  obtain ⟨_, _, rfl, h⟩ := h
  replace h := aInt_el h
  obtain ⟨x1, rfl, h⟩ := h
  replace h := aC_el h
  obtain ⟨_, _, rfl, h⟩ := h
  replace h := aInt_el h
  obtain ⟨x2, rfl, h⟩ := h
  replace h := aN_el h
  obtain ⟨rfl, h⟩ := h
  exact ⟨⟨x0, x1, x2⟩, rfl, h⟩
instance (cs : List V) (k : y03 → Prop) : Des (y5b cs k) (∃ x, cs = y7k x ∧ k x) := ⟨yge⟩
structure yo where
  mk ::
  Layout : ya
  k : Int
def y47 (x : yo) : List V := [vi x.Layout.c.Workers, vi x.Layout.c.CPUs, vi x.Layout.c.Pages, vi x.Layout.c.Stripes, vi x.Layout.c.Tries, vi x.Layout.c.Wait, vi x.Layout.c.Clock, vi x.Layout.c.Private, vi x.Layout.c.Cache, vi x.Layout.c.Bin, vi x.Layout.c.Batch, vi x.Layout.at_0, vi x.Layout.at_1, vi x.Layout.at_2, vi x.Layout.at_3, vi x.Layout.at_4, vi x.Layout.at_5, vi x.Layout.at_6, vi x.Layout.at_7, vi x.Layout.at_8, vi x.Layout.at_9, vi x.Layout.at_10, vi x.Layout.at_11, vi x.k]
def y3t (cs : List V) (k : yo → Prop) : Prop := aC cs fun a0 r => aInt a0 fun x0 => aC r fun a1 r => aInt a1 fun x1 => aC r fun a2 r => aInt a2 fun x2 => aC r fun a3 r => aInt a3 fun x3 => aC r fun a4 r => aInt a4 fun x4 => aC r fun a5 r => aInt a5 fun x5 => aC r fun a6 r => aInt a6 fun x6 => aC r fun a7 r => aInt a7 fun x7 => aC r fun a8 r => aInt a8 fun x8 => aC r fun a9 r => aInt a9 fun x9 => aC r fun a10 r => aInt a10 fun x10 => aC r fun a11 r => aInt a11 fun x11 => aC r fun a12 r => aInt a12 fun x12 => aC r fun a13 r => aInt a13 fun x13 => aC r fun a14 r => aInt a14 fun x14 => aC r fun a15 r => aInt a15 fun x15 => aC r fun a16 r => aInt a16 fun x16 => aC r fun a17 r => aInt a17 fun x17 => aC r fun a18 r => aInt a18 fun x18 => aC r fun a19 r => aInt a19 fun x19 => aC r fun a20 r => aInt a20 fun x20 => aC r fun a21 r => aInt a21 fun x21 => aC r fun a22 r => aInt a22 fun x22 => aC r fun a23 r => aInt a23 fun x23 => aN r (k ⟨⟨⟨x0, x1, x2, x3, x4, x5, x6, x7, x8, x9, x10⟩, x11, x12, x13, x14, x15, x16, x17, x18, x19, x20, x21, x22⟩, x23⟩)
theorem ygn {cs : List V} {k : yo → Prop} (h : y3t cs k) : ∃ x, cs = y47 x ∧ k x := by
  unfold y3t at h
  replace h := aC_el h
  obtain ⟨_, _, rfl, h⟩ := h
  replace h := aInt_el h
  obtain ⟨x0, rfl, h⟩ := h
  replace h := aC_el h
  obtain ⟨_, _, rfl, h⟩ := h
  replace h := aInt_el h
  obtain ⟨x1, rfl, h⟩ := h
  replace h := aC_el h
  obtain ⟨_, _, rfl, h⟩ := h
  replace h := aInt_el h
  obtain ⟨x2, rfl, h⟩ := h
  replace h := aC_el h
  obtain ⟨_, _, rfl, h⟩ := h
  replace h := aInt_el h
  obtain ⟨x3, rfl, h⟩ := h
  replace h := aC_el h
  obtain ⟨_, _, rfl, h⟩ := h
  replace h := aInt_el h
  obtain ⟨x4, rfl, h⟩ := h
  replace h := aC_el h
  obtain ⟨_, _, rfl, h⟩ := h
  replace h := aInt_el h
  obtain ⟨x5, rfl, h⟩ := h
  replace h := aC_el h
  obtain ⟨_, _, rfl, h⟩ := h
  replace h := aInt_el h
  obtain ⟨x6, rfl, h⟩ := h
  replace h := aC_el h
  obtain ⟨_, _, rfl, h⟩ := h
  replace h := aInt_el h
  obtain ⟨x7, rfl, h⟩ := h
  replace h := aC_el h
  obtain ⟨_, _, rfl, h⟩ := h
  replace h := aInt_el h
  obtain ⟨x8, rfl, h⟩ := h
  replace h := aC_el h
  obtain ⟨_, _, rfl, h⟩ := h
  replace h := aInt_el h
  obtain ⟨x9, rfl, h⟩ := h
  replace h := aC_el h
  obtain ⟨_, _, rfl, h⟩ := h
  replace h := aInt_el h
  obtain ⟨x10, rfl, h⟩ := h
  replace h := aC_el h
  obtain ⟨_, _, rfl, h⟩ := h
  replace h := aInt_el h
  obtain ⟨x11, rfl, h⟩ := h
  replace h := aC_el h
  obtain ⟨_, _, rfl, h⟩ := h
  replace h := aInt_el h
  obtain ⟨x12, rfl, h⟩ := h
  replace h := aC_el h
  obtain ⟨_, _, rfl, h⟩ := h
  replace h := aInt_el h
  obtain ⟨x13, rfl, h⟩ := h
  replace h := aC_el h
  obtain ⟨_, _, rfl, h⟩ := h
  replace h := aInt_el h
  obtain ⟨x14, rfl, h⟩ := h
  replace h := aC_el h
  obtain ⟨_, _, rfl, h⟩ := h
  replace h := aInt_el h
  obtain ⟨x15, rfl, h⟩ := h
  replace h := aC_el h
  obtain ⟨_, _, rfl, h⟩ := h
  replace h := aInt_el h
  obtain ⟨x16, rfl, h⟩ := h
  replace h := aC_el h
  obtain ⟨_, _, rfl, h⟩ := h
  replace h := aInt_el h
  obtain ⟨x17, rfl, h⟩ := h
  replace h := aC_el h
  obtain ⟨_, _, rfl, h⟩ := h
  replace h := aInt_el h
  obtain ⟨x18, rfl, h⟩ := h
  replace h := aC_el h
  obtain ⟨_, _, rfl, h⟩ := h
  replace h := aInt_el h
  obtain ⟨x19, rfl, h⟩ := h
  replace h := aC_el h
  obtain ⟨_, _, rfl, h⟩ := h
  replace h := aInt_el h
  obtain ⟨x20, rfl, h⟩ := h
  replace h := aC_el h
  obtain ⟨_, _, rfl, h⟩ := h
  replace h := aInt_el h
  obtain ⟨x21, rfl, h⟩ := h
  replace h := aC_el h
  obtain ⟨_, _, rfl, h⟩ := h
  replace h := aInt_el h
  obtain ⟨x22, rfl, h⟩ := h
  replace h := aC_el h
  obtain ⟨_, _, rfl, h⟩ := h
  replace h := aInt_el h
  obtain ⟨x23, rfl, h⟩ := h
  replace h := aN_el h
  obtain ⟨rfl, h⟩ := h
  exact ⟨⟨⟨⟨x0, x1, x2, x3, x4, x5, x6, x7, x8, x9, x10⟩, x11, x12, x13, x14, x15, x16, x17, x18, x19, x20, x21, x22⟩, x23⟩, rfl, h⟩
instance (cs : List V) (k : yo → Prop) : Des (y3t cs k) (∃ x, cs = y47 x ∧ k x) := ⟨ygn⟩
end Go.Rx
end

section
namespace Go.Rx
open Go.Proofs
def lowI : List (List Int) → Int → Nat
  | [], _ => 0
  | e :: r, k => if keyOf e < k then lowI r k + 1 else 0
def sortedI (its : List (List Int)) : Bool := decide (its.Pairwise (fun x y => keyOf x < keyOf y))
def hasI (its : List (List Int)) (k : Int) : Bool := (lookI its k).isSome
def putI (its : List (List Int)) (k x : Int) : List (List Int) :=
  if hasI its k then its.set (lowI its k) [k, x] else its.take (lowI its k) ++ [k, x] :: its.drop (lowI its k)
def placeS : Spec := ⟨fun args H K => match args, H with
  | [.ptr 0 0, .ext (.int .i64 k)], [.cells T [.row 1], .row 5 its true] => Req (sortedI its && Nat.ble its.length 1048577) (K (.tup [vi (lowI its k), vb (hasI its k)]) [.cells T [.row 1], .row 5 its true])
  | _, _ => False, true⟩
def getS : Spec := ⟨fun args H K => match args, H with
  | [.ptr 0 0, .ext (.int .i64 k)], [.cells T [.row 1], .row 5 its true] => Req (sortedI its && Nat.ble its.length 1048577) (K (.tup [vi ((lookI its k).getD 0), vb (hasI its k)]) [.cells T [.row 1], .row 5 its true])
  | _, _ => False, true⟩
def putS : Spec := ⟨fun args H K => match args, H with
  | [.ptr 0 0, .ext (.int .i64 k), .ext (.int .i64 x)], [.cells T [.row 1], .row 5 its false] => Req (sortedI its && Nat.ble (putI its k x).length 1048576)
    (br (hasI its k) (K (vb false) [.cells T [.row 1], .row 5 (putI its k x) false]) (K (vb true) [.cells T [.row 2], .dead, .row 5 (putI its k x) false]))
  | _, _ => False, false⟩
def lenS : Spec := ⟨fun args H K => match args, H with
  | [.ptr 0 0], [.cells T [.row 1], .row 5 its true] => K (vi (its.length : Int)) [.cells T [.row 1], .row 5 its true]
  | _, _ => False, true⟩
def newS : Spec := ⟨fun args H K => match args, H with
  | [], [] => K (.ptr 0 0) [.cells 115 [.ext (.slice none 0 0)]]
  | _, _ => False, false⟩
noncomputable def cfg117 : Cfg := { cfgB with
  keep := fun r => match r with | 2 => some [(0, none), (1, none), (6, none), (7, none)] | _ => none
  keepB := fun b => match b with | 0 => some [(0, none), (1, none), (6, none), (7, none)] | _ => none
  plan := fun r => match r with
    | 1 => some (List.range 7, 0)
    | 7 => some (List.range 22, 0)
    | _ => none }
def sigGet : FuncId → Option Spec := fun f => match f with
  | 141 => some placeS
  | _ => none
noncomputable def cfg116 : Cfg := { cfgB with sigs := sigGet }
noncomputable def cfg115 : Cfg := { cfgB with sigs := sigGet, plan := fun r => match r with | 8 => some (List.range 14, 1) | _ => none }
end Go.Rx
end

section
namespace Go.Rx
open Go.Proofs
set_option maxRecDepth 100000
theorem nf117 (its : List (List Int)) (k : Int) (T : TypeId) (K : V → Heap → Prop) : (exF cfg117 Tryz.f141 [.ptr 0 0, vi k] [.cells T [.row 1], .row 5 its true] K) = (
    Loop cfg117 (⟨56, 2⟩ : Cx) (at_ (bodyOf Tryz.f141) [1, 1, 0, 0, 0])  (mkEnv [(0, .ptr 0 0), (1, vi (k)), (6, vi (0)), (7, vi ((↑(List.length its) : Int)))]) [.cells T [.row 1], .row 5 (its : List (List Int)) Bool.true] (contK cfg117 (⟨56, 2⟩ : Cx) (bodyOf Tryz.f141) [1, 1, 0, 0] (retK cfg117 Tryz.f141 2 K))) := by
  kernel_rfl
theorem nf117r (its : List (List Int)) (k : Int) (T : TypeId) (lo hi : Int) (K : V → Heap → Prop) (J : Env → Heap → Prop) : (ex cfg117 (⟨56, 2⟩ : Cx) (at_ (bodyOf Tryz.f141) [1, 1, 0, 0, 0]) (mkEnv [(0, .ptr 0 0), (1, vi k), (6, vi lo), (7, vi hi)]) [.cells T [.row 1], .row 5 its true] (roundK cfg117 (⟨56, 2⟩ : Cx) (at_ (bodyOf Tryz.f141) [1, 1, 0, 0, 0]) (contK cfg117 (⟨56, 2⟩ : Cx) (bodyOf Tryz.f141) [1, 1, 0, 0] (retK cfg117 Tryz.f141 2 K)) J)) = (
    br (Decidable.decide (lo < hi))
      (
      Req (Go.Rx.inR (Go.IntKind.wrap Go.IntKind.i64 (lo + Go.IntKind.wrap Go.IntKind.i64 (Int.tdiv (Go.IntKind.wrap Go.IntKind.i64 (hi - lo)) 2))) (List.length its))
        (
        Req (Go.Rx.inR (Go.Rx.offs (Go.IntKind.wrap Go.IntKind.i64 (lo + Go.IntKind.wrap Go.IntKind.i64 (Int.tdiv (Go.IntKind.wrap Go.IntKind.i64 (hi - lo)) 2))) 0) (List.length its))
          (
          br (Decidable.decide (List.getD (List.getD its (Int.toNat (Go.Rx.offs (Go.IntKind.wrap Go.IntKind.i64 (lo + Go.IntKind.wrap Go.IntKind.i64 (Int.tdiv (Go.IntKind.wrap Go.IntKind.i64 (hi - lo)) (2 : Int)))) (0 : Nat))) (List.replicate (2 : Nat) (0 : Int))) (0 : Nat) (0 : Int) < k))
            (
            J (mkEnv [(0, .ptr 0 0), (1, vi (k)), (6, vi (Go.IntKind.wrap Go.IntKind.i64 (Go.IntKind.wrap Go.IntKind.i64 (lo + Go.IntKind.wrap Go.IntKind.i64 (Int.tdiv (Go.IntKind.wrap Go.IntKind.i64 (hi - lo)) 2)) + 1))), (7, vi (hi))]) [.cells T [.row 1], .row 5 (its : List (List Int)) Bool.true])
            (
            J (mkEnv [(0, .ptr 0 0), (1, vi (k)), (6, vi (lo)), (7, vi (Go.IntKind.wrap Go.IntKind.i64 (lo + Go.IntKind.wrap Go.IntKind.i64 (Int.tdiv (Go.IntKind.wrap Go.IntKind.i64 (hi - lo)) 2))))]) [.cells T [.row 1], .row 5 (its : List (List Int)) Bool.true]))))
      (
      br (Decidable.decide (lo < (↑(List.length its) : Int)))
        (
        Req (Go.Rx.inR lo (List.length its))
          (
          Req (Go.Rx.inR (Go.Rx.offs lo 0) (List.length its))
            (
            K (.tup [vi (lo), vb (List.getD (List.getD its (Int.toNat (Go.Rx.offs lo (0 : Nat))) (List.replicate (2 : Nat) (0 : Int))) (0 : Nat) (0 : Int) == k)]) [.cells T [.row 1], .row 5 (its : List (List Int)) Bool.true])))
        (
        K (.tup [vi (lo), vb (Bool.false)]) [.cells T [.row 1], .row 5 (its : List (List Int)) Bool.true]))) := by
  kernel_rfl
theorem nf116 (its : List (List Int)) (k : Int) (T : TypeId) (K : V → Heap → Prop) : (exF cfg116 Tryz.f102 [.ptr 0 0, vi k] [.cells T [.row 1], .row 5 its true] K) = (
    Req (Go.Rx.sortedI its && Nat.ble (List.length its) 1048577)
      (
      br (!Go.Rx.hasI its k)
        (
        K (.tup [vi (0), vb (Bool.false)]) [.cells T [.row 1], .row 5 (its : List (List Int)) Bool.true])
        (
        Req (Go.Rx.inR (↑(Go.Rx.lowI its k) : Int) (List.length its))
          (
          Req (Go.Rx.inR (Go.Rx.offs (↑(Go.Rx.lowI its k) : Int) 0) (List.length its))
            (
            K (.tup [vi (List.getD (List.getD its (Int.toNat (Go.Rx.offs (↑(Go.Rx.lowI its k) : Int) (0 : Nat))) (List.replicate (2 : Nat) (0 : Int))) (1 : Nat) (0 : Int)), vb (Bool.true)]) [.cells T [.row 1], .row 5 (its : List (List Int)) Bool.true]))))) := by
  kernel_rfl
theorem nf115 (its : List (List Int)) (k : Int) (T : TypeId) (x : Int) (K : V → Heap → Prop) : (exF cfg115 Tryz.f134 [.ptr 0 0, vi k, vi x] [.cells T [.row 1], .row 5 its false] K) = (
    Req (Go.Rx.sortedI its && Nat.ble (List.length its) 1048577)
      (
      br (Go.Rx.hasI its k)
        (
        Req (Go.Rx.inR (↑(Go.Rx.lowI its k) : Int) (List.length its))
          (
          Req (Go.Rx.inR (Go.Rx.offs (↑(Go.Rx.lowI its k) : Int) 0) (List.length its))
            (
            K (vb (Bool.false)) [.cells T [.row 1], .row 5 (List.set its (Int.toNat (Go.Rx.offs (↑(Go.Rx.lowI its k) : Int) (0 : Nat))) [List.getD (List.getD its (Int.toNat (Go.Rx.offs (↑(Go.Rx.lowI its k) : Int) (0 : Nat))) (List.replicate (2 : Nat) (0 : Int))) (0 : Nat) (0 : Int), x] : List (List Int)) Bool.false])))
        (
        Req (Decidable.decide (List.length its + 1 ≤ 1048576))
          (
          Req (Decidable.decide (0 ≤ Go.IntKind.wrap Go.IntKind.i64 ((↑(Go.Rx.lowI its k) : Int) + 1) ∧ Go.IntKind.wrap Go.IntKind.i64 ((↑(Go.Rx.lowI its k) : Int) + 1) ≤ (↑(List.length (its ++ [[0, 0]])) : Int)))
            (
            Req (Decidable.decide (0 ≤ (↑(Go.Rx.lowI its k) : Int) ∧ (↑(Go.Rx.lowI its k) : Int) ≤ (↑(List.length (its ++ [[0, 0]])) : Int)))
              (
              Req (Decidable.decide (Int.toNat (↑(Go.Rx.lowI its k) : Int) + (List.length (its ++ [[0, 0]]) - Int.toNat (↑(Go.Rx.lowI its k) : Int)) ≤ List.length (its ++ [[0, 0]])))
                (
                Req (Decidable.decide (Int.toNat (Go.IntKind.wrap Go.IntKind.i64 ((↑(Go.Rx.lowI its k) : Int) + 1)) + (List.length (its ++ [[0, 0]]) - Int.toNat (Go.IntKind.wrap Go.IntKind.i64 ((↑(Go.Rx.lowI its k) : Int) + 1))) ≤ List.length (its ++ [[0, 0]])))
                  (
                  Req (Go.Rx.inR (↑(Go.Rx.lowI its k) : Int) (List.length (List.take (Int.toNat (Go.IntKind.wrap Go.IntKind.i64 ((↑(Go.Rx.lowI its k) : Int) + 1))) (its ++ [[0, 0]]) ++ (List.take (Min.min (List.length (its ++ [[0, 0]]) - Int.toNat (Go.IntKind.wrap Go.IntKind.i64 ((↑(Go.Rx.lowI its k) : Int) + 1))) (List.length (List.take (List.length (its ++ [[0, 0]]) - Int.toNat (↑(Go.Rx.lowI its k) : Int)) (List.drop (Int.toNat (↑(Go.Rx.lowI its k) : Int)) (its ++ [[0, 0]]))))) (List.take (List.length (its ++ [[0, 0]]) - Int.toNat (↑(Go.Rx.lowI its k) : Int)) (List.drop (Int.toNat (↑(Go.Rx.lowI its k) : Int)) (its ++ [[0, 0]]))) ++ List.drop (Int.toNat (Go.IntKind.wrap Go.IntKind.i64 ((↑(Go.Rx.lowI its k) : Int) + 1)) + Min.min (List.length (its ++ [[0, 0]]) - Int.toNat (Go.IntKind.wrap Go.IntKind.i64 ((↑(Go.Rx.lowI its k) : Int) + 1))) (List.length (List.take (List.length (its ++ [[0, 0]]) - Int.toNat (↑(Go.Rx.lowI its k) : Int)) (List.drop (Int.toNat (↑(Go.Rx.lowI its k) : Int)) (its ++ [[0, 0]]))))) (its ++ [[0, 0]])))))
                    (
                    Req (Go.Rx.inR (Go.Rx.offs (↑(Go.Rx.lowI its k) : Int) 0) (List.length (List.take (Int.toNat (Go.IntKind.wrap Go.IntKind.i64 ((↑(Go.Rx.lowI its k) : Int) + 1))) (its ++ [[0, 0]]) ++ (List.take (Min.min (List.length (its ++ [[0, 0]]) - Int.toNat (Go.IntKind.wrap Go.IntKind.i64 ((↑(Go.Rx.lowI its k) : Int) + 1))) (List.length (List.take (List.length (its ++ [[0, 0]]) - Int.toNat (↑(Go.Rx.lowI its k) : Int)) (List.drop (Int.toNat (↑(Go.Rx.lowI its k) : Int)) (its ++ [[0, 0]]))))) (List.take (List.length (its ++ [[0, 0]]) - Int.toNat (↑(Go.Rx.lowI its k) : Int)) (List.drop (Int.toNat (↑(Go.Rx.lowI its k) : Int)) (its ++ [[0, 0]]))) ++ List.drop (Int.toNat (Go.IntKind.wrap Go.IntKind.i64 ((↑(Go.Rx.lowI its k) : Int) + 1)) + Min.min (List.length (its ++ [[0, 0]]) - Int.toNat (Go.IntKind.wrap Go.IntKind.i64 ((↑(Go.Rx.lowI its k) : Int) + 1))) (List.length (List.take (List.length (its ++ [[0, 0]]) - Int.toNat (↑(Go.Rx.lowI its k) : Int)) (List.drop (Int.toNat (↑(Go.Rx.lowI its k) : Int)) (its ++ [[0, 0]]))))) (its ++ [[0, 0]])))))
                      (
                      K (vb (Bool.true)) [.cells T [.row 2], .dead, .row 5 (List.set (List.take (Int.toNat (Go.IntKind.wrap Go.IntKind.i64 ((↑(Go.Rx.lowI its k) : Int) + 1))) (its ++ [[0, 0]]) ++ (List.take (Min.min (List.length (its ++ [[0, 0]]) - Int.toNat (Go.IntKind.wrap Go.IntKind.i64 ((↑(Go.Rx.lowI its k) : Int) + 1))) (List.length (List.take (List.length (its ++ [[0, 0]]) - Int.toNat (↑(Go.Rx.lowI its k) : Int)) (List.drop (Int.toNat (↑(Go.Rx.lowI its k) : Int)) (its ++ [[0, 0]]))))) (List.take (List.length (its ++ [[0, 0]]) - Int.toNat (↑(Go.Rx.lowI its k) : Int)) (List.drop (Int.toNat (↑(Go.Rx.lowI its k) : Int)) (its ++ [[0, 0]]))) ++ List.drop (Int.toNat (Go.IntKind.wrap Go.IntKind.i64 ((↑(Go.Rx.lowI its k) : Int) + 1)) + Min.min (List.length (its ++ [[0, 0]]) - Int.toNat (Go.IntKind.wrap Go.IntKind.i64 ((↑(Go.Rx.lowI its k) : Int) + 1))) (List.length (List.take (List.length (its ++ [[0, 0]]) - Int.toNat (↑(Go.Rx.lowI its k) : Int)) (List.drop (Int.toNat (↑(Go.Rx.lowI its k) : Int)) (its ++ [[0, 0]]))))) (its ++ [[0, 0]]))) (Int.toNat (Go.Rx.offs (↑(Go.Rx.lowI its k) : Int) 0)) [k, x] : List (List Int)) Bool.false])))))))))) := by
  kernel_rfl
theorem nf113 (its : List (List Int)) (T : TypeId) (K : V → Heap → Prop) : (exF cfg115 Tryz.f143 [.ptr 0 0] [.cells T [.row 1], .row 5 its true] K) = (
    K (vi ((↑(List.length its) : Int))) [.cells T [.row 1], .row 5 (its : List (List Int)) Bool.true]) := by
  kernel_rfl
theorem nf103  (K : V → Heap → Prop) : (exF cfg115 Tryz.f70 [] [] K) = (
    K (.ptr 0 0) [.cells 115 [.ext (Go.Value.slice Option.none 0 0)]]) := by
  kernel_rfl
end Go.Rx
end

section
namespace Go.Rx
open Go.Proofs
attribute [local irreducible] Loop ex exF contK roundK retK at_ bodyOf mkEnv mkA
theorem Req_true {A : Prop} : Req true A = A := rfl
theorem offs_nat (i : Nat) : offs (i : Int) 0 = (i : Int) := rfl
def kA (its : List (List Int)) (j : Nat) : Int := (its.getD j (List.replicate 2 0)).getD 0 0
theorem kA_of {its : List (List Int)} {j : Nat} {e : List Int} (h : its[j]? = some e) : kA its j = keyOf e := by
  unfold kA keyOf; simp [h]
theorem lowI_le (k : Int) : ∀ its : List (List Int), lowI its k ≤ its.length
  | [] => Nat.le_refl _
  | e :: r => by
    simp only [lowI]
    split
    · have := lowI_le k r; simp; omega
    · simp
theorem lowI_at {k : Int} : ∀ {its : List (List Int)} {n : Nat}, n ≤ its.length → (∀ j, j < n → kA its j < k) → (n < its.length → k ≤ kA its n) → lowI its k = n
  | [], n, h, _, _ => by simp at h; subst h; rfl
  | e :: r, 0, _, _, h2 => by
    have : k ≤ keyOf e := h2 (by simp)
    simp only [lowI]
    rw [if_neg (by omega)]
  | e :: r, n + 1, h, h1, h2 => by
    have h0 : keyOf e < k := h1 0 (by omega)
    simp only [lowI]
    rw [if_pos h0, lowI_at (its := r) (n := n) (by simpa using h) (fun j hj => h1 (j + 1) (by omega)) (fun hn => h2 (by simpa using hn))]
theorem sortedI_of {its : List (List Int)} (h : sortedI its = true) : its.Pairwise (fun x y => keyOf x < keyOf y) := of_decide_eq_true h
theorem sorted_mono {its : List (List Int)} (h : its.Pairwise (fun x y => keyOf x < keyOf y)) {i j : Nat} (hij : i < j) (hj : j < its.length) : kA its i < kA its j := by
  have hi : i < its.length := by omega
  rw [kA_of (List.getElem?_eq_getElem hi), kA_of (List.getElem?_eq_getElem hj)]
  exact List.pairwise_iff_getElem.1 h i j hi hj hij
theorem lookI_none {k : Int} : ∀ {its : List (List Int)}, (∀ e ∈ its, keyOf e ≠ k) → lookI its k = none
  | [], _ => rfl
  | e :: r, h => by
    simp only [lookI]
    rw [if_neg (h e (by simp))]
    exact lookI_none (fun e' he => h e' (by simp [he]))
theorem lookI_append {k : Int} : ∀ (a b : List (List Int)), lookI (a ++ b) k = (lookI a k).or (lookI b k)
  | [], b => by simp [lookI]
  | e :: r, b => by
    simp only [List.cons_append, lookI]
    split
    · rfl
    · exact lookI_append r b
theorem its_parts {its : List (List Int)} (h : its.Pairwise (fun x y => keyOf x < keyOf y)) (k : Int) :
    (∀ e ∈ its.take (lowI its k), keyOf e < k) ∧ ((∃ e r, its.drop (lowI its k) = e :: r ∧ keyOf e = k ∧ ∀ y ∈ r, k < keyOf y) ∨ (∀ y ∈ its.drop (lowI its k), k < keyOf y)) := by
  induction its with
  | nil => simp
  | cons e r ih =>
    rw [List.pairwise_cons] at h
    obtain ⟨h1, h2⟩ := h
    simp only [lowI]
    split
    · rename_i he
      obtain ⟨i1, i2⟩ := ih h2
      refine ⟨fun y hy => ?_, i2⟩
      rw [List.take_succ_cons] at hy
      rcases List.mem_cons.1 hy with rfl | hy
      · exact he
      · exact i1 y hy
    · rename_i he
      refine ⟨by simp, ?_⟩
      rw [List.drop_zero]
      by_cases hk : keyOf e = k
      · exact .inl ⟨e, r, rfl, hk, fun y hy => by have := h1 y hy; omega⟩
      · refine .inr (fun y hy => ?_)
        rcases List.mem_cons.1 hy with rfl | hy
        · omega
        · have := h1 y hy; omega
theorem look_parts {its : List (List Int)} (h : its.Pairwise (fun x y => keyOf x < keyOf y)) (k : Int) :
    lookI its k = if lowI its k < its.length ∧ kA its (lowI its k) = k then some ((its.getD (lowI its k) (List.replicate 2 0)).getD 1 0) else none := by
  obtain ⟨h1, h2⟩ := its_parts h k
  have e : lookI its k = (lookI (its.take (lowI its k)) k).or (lookI (its.drop (lowI its k)) k) := by rw [← lookI_append, List.take_append_drop]
  rw [e, lookI_none (fun y hy => by have := h1 y hy; omega), Option.none_or]
  rcases h2 with ⟨e, r, q1, q2, q3⟩ | q
  · have hlt : lowI its k < its.length := by
      have : (its.drop (lowI its k)).length = r.length + 1 := by rw [q1]; rfl
      rw [List.length_drop] at this; omega
    have hg : its[lowI its k]? = some e := by
      have : (its.drop (lowI its k))[0]? = some e := by rw [q1]; rfl
      rw [List.getElem?_drop] at this
      simpa using this
    rw [if_pos ⟨hlt, by rw [kA_of hg]; exact q2⟩, q1]
    simp only [lookI, if_pos q2]
    simp [hg, valOf]
  · rw [lookI_none (fun y hy => by have := q y hy; omega)]
    rw [if_neg]
    rintro ⟨hl, hk⟩
    have := q (its[lowI its k]) (List.mem_drop_iff_getElem.2 ⟨0, by simpa using hl, by simp⟩)
    rw [kA_of (List.getElem?_eq_getElem hl)] at hk
    omega
theorem hasI_iff {its : List (List Int)} (h : its.Pairwise (fun x y => keyOf x < keyOf y)) (k : Int) : hasI its k = (decide (lowI its k < its.length) && (kA its (lowI its k) == k)) := by
  unfold hasI
  rw [look_parts h k]
  split
  · rename_i hc; simp [hc.1, hc.2]
  · rename_i hc
    cases h1 : decide (lowI its k < its.length) with
    | false => simp
    | true =>
      have h1 := of_decide_eq_true h1
      have : ¬ kA its (lowI its k) = k := fun h2 => hc ⟨h1, h2⟩
      simp [this]
theorem hasI_split {its : List (List Int)} (h : its.Pairwise (fun x y => keyOf x < keyOf y)) {k : Int} (hk : hasI its k = true) : lowI its k < its.length ∧ kA its (lowI its k) = k ∧ lookI its k = some ((its.getD (lowI its k) (List.replicate 2 0)).getD 1 0) := by
  have hb := hk
  rw [hasI_iff h] at hb
  simp at hb
  refine ⟨hb.1, hb.2, ?_⟩
  rw [look_parts h, if_pos hb]
theorem putI_sorted {its : List (List Int)} (h : its.Pairwise (fun x y => keyOf x < keyOf y)) (k x : Int) : (putI its k x).Pairwise (fun x y => keyOf x < keyOf y) ∧
    (∀ a, lookI (putI its k x) a = if a = k then some x else lookI its a) ∧ (∀ e ∈ putI its k x, e ∈ its ∨ keyOf e = k) := by
  obtain ⟨h1, h2⟩ := its_parts h k
  have hsp : its.take (lowI its k) ++ its.drop (lowI its k) = its := List.take_append_drop _ _
  have hlow := lowI_le k its
  have key : ∀ R : List (List Int), (∀ y ∈ R, k < keyOf y) → (∀ y ∈ R, y ∈ its) → R.Pairwise (fun x y => keyOf x < keyOf y) → (∀ a, a ≠ k → lookI its a = lookI (its.take (lowI its k) ++ R) a) → putI its k x = its.take (lowI its k) ++ [k, x] :: R →
      (putI its k x).Pairwise (fun x y => keyOf x < keyOf y) ∧ (∀ a, lookI (putI its k x) a = if a = k then some x else lookI its a) ∧ (∀ e ∈ putI its k x, e ∈ its ∨ keyOf e = k) := by
    intro R r1 r2 r3 r4 r5
    rw [r5]
    refine ⟨?_, fun a => ?_, fun e he => ?_⟩
    · rw [List.pairwise_append]
      refine ⟨h.sublist (List.take_sublist _ _), ?_, fun a ha b hb => ?_⟩
      · rw [List.pairwise_cons]; exact ⟨fun y hy => r1 y hy, r3⟩
      · have := h1 a ha
        rcases List.mem_cons.1 hb with rfl | hb
        · exact this
        · have := r1 b hb; omega
    · rw [lookI_append]
      by_cases e : a = k
      · subst e
        rw [if_pos rfl, lookI_none (fun y hy => by have := h1 y hy; omega)]
        simp [lookI, keyOf, valOf]
      · rw [if_neg e, r4 a e, lookI_append]
        congr 1
        simp only [lookI]
        rw [if_neg (by show ¬ k = a; exact fun h => e h.symm)]
    · rcases List.mem_append.1 he with he | he
      · exact .inl (List.mem_of_mem_take he)
      · rcases List.mem_cons.1 he with rfl | he
        · exact .inr rfl
        · exact .inl (r2 e he)
  have hdrop : ∀ y ∈ its.drop (lowI its k), y ∈ its := fun y hy => List.mem_of_mem_drop hy
  have hps : (its.drop (lowI its k)).Pairwise (fun x y => keyOf x < keyOf y) := h.sublist (List.drop_sublist _ _)
  rcases h2 with ⟨e, r, q1, q2, q3⟩ | q
  · have hl : lowI its k < its.length := by
      have : (its.drop (lowI its k)).length = r.length + 1 := by rw [q1]; rfl
      rw [List.length_drop] at this; omega
    have hg : its[lowI its k]? = some e := by
      have : (its.drop (lowI its k))[0]? = some e := by rw [q1]; rfl
      rw [List.getElem?_drop] at this
      simpa using this
    have hh : hasI its k = true := by
      rw [hasI_iff h]; simp [hl, kA_of hg, q2]
    refine key r q3 (fun y hy => hdrop y (by rw [q1]; simp [hy])) (by rw [q1] at hps; exact (List.pairwise_cons.1 hps).2) (fun a ha => ?_) ?_
    · conv => lhs; rw [← hsp, q1]
      rw [lookI_append, lookI_append]
      congr 1
      simp only [lookI]
      rw [if_neg (by omega)]
    · unfold putI
      rw [if_pos hh]
      have : its = its.take (lowI its k) ++ e :: r := by rw [← q1]; exact hsp.symm
      generalize hp : lowI its k = p at *
      have hlen : (its.take p).length = p := by rw [List.length_take]; omega
      conv => lhs; rw [this]
      rw [List.set_append_right _ _ (by omega), hlen, Nat.sub_self]
      rfl
  · have hh : ¬ hasI its k = true := by
      intro hb
      obtain ⟨b1, b2, _⟩ := hasI_split h hb
      rw [kA_of (List.getElem?_eq_getElem b1)] at b2
      have := q _ (List.mem_drop_iff_getElem.2 ⟨0, by simpa using b1, by simp; rfl⟩)
      omega
    refine key (its.drop (lowI its k)) q hdrop hps (fun a _ => by rw [hsp]) ?_
    unfold putI
    rw [if_neg hh]
theorem put_list {its : List (List Int)} {p : Nat} (hp : p ≤ its.length) (z e : List Int) :
    (List.take (p + 1) (its ++ [z]) ++ (List.take (Min.min ((its ++ [z]).length - (p + 1)) (List.take ((its ++ [z]).length - p) (List.drop p (its ++ [z]))).length) (List.take ((its ++ [z]).length - p) (List.drop p (its ++ [z]))) ++
      List.drop (p + 1 + Min.min ((its ++ [z]).length - (p + 1)) (List.take ((its ++ [z]).length - p) (List.drop p (its ++ [z]))).length) (its ++ [z]))).set p e = its.take p ++ e :: its.drop p := by
  have hM : (its ++ [z]).length = its.length + 1 := by simp
  rw [hM]
  have hd : List.drop p (its ++ [z]) = its.drop p ++ [z] := List.drop_append_of_le_length hp
  rw [hd]
  have hdl : (its.drop p ++ [z]).length = its.length + 1 - p := by simp; omega
  have ht : List.take (its.length + 1 - p) (its.drop p ++ [z]) = its.drop p ++ [z] := List.take_of_length_le (by omega)
  rw [ht, hdl]
  have hmin : Min.min (its.length + 1 - (p + 1)) (its.length + 1 - p) = its.length - p := by omega
  rw [hmin]
  have h3 : List.take (its.length - p) (its.drop p ++ [z]) = its.drop p := List.take_left' (by simp)
  have h4 : List.drop (p + 1 + (its.length - p)) (its ++ [z]) = [] := List.drop_of_length_le (by rw [hM]; omega)
  rw [h3, h4, List.append_nil]
  have h5 : List.take (p + 1) (its ++ [z]) = its.take p ++ [(its ++ [z])[p]'(by rw [hM]; omega)] := by
    rw [List.take_succ_eq_append_getElem (by rw [hM]; omega)]
    rw [List.take_append_of_le_length hp]
  rw [h5]
  have hlen : (its.take p).length = p := by rw [List.length_take]; omega
  rw [List.append_assoc, List.set_append_right _ _ (by omega), hlen, Nat.sub_self]
  rfl
theorem sigGet0_ok {sg : FuncId → Option Spec} (h : SpecOK Tryz.prog elTT 141 placeS) (hs : sg = sigGet) : ∀ g s, sg g = some s → SpecOK Tryz.prog elTT g s := by
  intro g s hg
  subst hs
  unfold sigGet at hg
  split at hg
  · injection hg with hg; subst hg; exact h
  · cases hg
theorem placeS_elim {args : List V} {H : Heap} {K : V → Heap → Prop} (h : placeS.tr args H K) : ∃ (its : List (List Int)) (k : Int) (T : TypeId), args = [.ptr 0 0, vi k] ∧ H = [.cells T [.row 1], .row 5 its true] ∧ sortedI its = true ∧ its.length ≤ 1048577 ∧
    K (.tup [vi (lowI its k), vb (hasI its k)]) [.cells T [.row 1], .row 5 its true] := by
  unfold placeS at h
  simp only at h
  split at h
  · rename_i k T its
    have hr := Req_elim h
    have h1 := hr.1
    simp only [Bool.and_eq_true] at h1
    exact ⟨its, k, T, rfl, rfl, h1.1, Nat.le_of_ble_eq_true h1.2, hr.2⟩
  · exact h.elim
theorem place_ok : SpecOK Tryz.prog elTT 141 placeS := by
  refine spec_of_exF (cfg := cfg117) (yg rfl rfl rfl) (nosig rfl) (fn := Tryz.f141) (by kernel_rfl) (by kernel_rfl) (by kernel_rfl) ?_
  intro args H K h
  obtain ⟨its, k, T, rfl, rfl, hs, hl, hk⟩ := placeS_elim h
  have hp := sortedI_of hs
  refine Eq.mpr (nf117 its k T K) ?_
  refine loop_ind (σ := Nat × Nat) (fun s => mkEnv [(0, .ptr 0 0), (1, vi k), (6, vi (s.1 : Int)), (7, vi (s.2 : Int))]) (fun _ => [.cells T [.row 1], .row 5 its true])
    (fun s => s.1 ≤ s.2 ∧ s.2 ≤ its.length ∧ (∀ j, j < s.1 → kA its j < k) ∧ (s.2 < its.length → k ≤ kA its s.2)) (fun s => s.2 - s.1) ?_ (0, its.length) ⟨Nat.zero_le _, Nat.le_refl _, fun j hj => by omega, fun h => absurd h (Nat.lt_irrefl _)⟩
  rintro ⟨lo, hi⟩ ⟨i1, i2, i3, i4⟩ J hJ
  simp only at i1 i2 i3 i4 ⊢
  refine Eq.mpr (nf117r its k T lo hi K J) (br_intro (fun h1 => ?_) (fun h1 => ?_))
  · have h1 : lo < hi := by simpa using h1
    have e1 : Go.IntKind.i64.wrap ((hi : Int) - lo) = ((hi - lo : Nat) : Int) := by rw [wrap_id (by omega) (by omega)]; omega
    have e2 : Go.IntKind.i64.wrap (Int.tdiv ((hi - lo : Nat) : Int) 2) = (((hi - lo) / 2 : Nat) : Int) := by
      have : Int.tdiv ((hi - lo : Nat) : Int) 2 = (((hi - lo) / 2 : Nat) : Int) := rfl
      rw [this, wrap_id (by omega) (by omega)]
    have e3 : Go.IntKind.i64.wrap ((lo : Int) + (((hi - lo) / 2 : Nat) : Int)) = ((lo + (hi - lo) / 2 : Nat) : Int) := by rw [wrap_id (by omega) (by omega)]; omega
    rw [e1, e2, e3]
    have hm1 : lo ≤ lo + (hi - lo) / 2 := by omega
    have hm2 : lo + (hi - lo) / 2 < hi := by omega
    generalize lo + (hi - lo) / 2 = mid at hm1 hm2 ⊢
    simp only [offs_nat, inR_nat (show mid < its.length by omega), Req_true, Int.toNat_natCast, wrap_succ (show mid ≤ 4611686018427387904 by omega)]
    refine br_intro (fun h2 => ?_) (fun h2 => ?_)
    · have h2 : kA its mid < k := of_decide_eq_true h2
      refine hJ (mid + 1, hi) ⟨by simp only; omega, i2, fun j hj => ?_, i4⟩ (by simp only; omega)
      by_cases hjm : j = mid
      · subst hjm; exact h2
      · have := sorted_mono hp (i := j) (j := mid) (by simp only at hj; omega) (by omega)
        omega
    · have h2 : ¬ kA its mid < k := of_decide_eq_false h2
      exact hJ (lo, mid) ⟨hm1, by simp only; omega, i3, fun _ => by simp only; omega⟩ (by simp only; omega)
  · have h1 : lo = hi := by simp at h1; omega
    subst h1
    have hlow : lowI its k = lo := lowI_at i2 i3 i4
    have hh := hasI_iff hp k
    rw [hlow] at hk hh
    refine br_intro (fun h2 => ?_) (fun h2 => ?_)
    · have h2 : lo < its.length := by simpa using h2
      simp only [offs_nat, inR_nat h2, Req_true, Int.toNat_natCast]
      rw [hh] at hk
      simp only [h2, decide_true, Bool.true_and] at hk
      exact hk
    · have h2 : ¬ lo < its.length := by simpa using h2
      rw [hh] at hk
      simp only [h2, decide_false, Bool.false_and] at hk
      exact hk
theorem getS_elim {args : List V} {H : Heap} {K : V → Heap → Prop} (h : getS.tr args H K) : ∃ (its : List (List Int)) (k : Int) (T : TypeId), args = [.ptr 0 0, vi k] ∧ H = [.cells T [.row 1], .row 5 its true] ∧ sortedI its = true ∧ its.length ≤ 1048577 ∧
    K (.tup [vi ((lookI its k).getD 0), vb (hasI its k)]) [.cells T [.row 1], .row 5 its true] := by
  unfold getS at h
  simp only at h
  split at h
  · rename_i k T its
    have hr := Req_elim h
    have h1 := hr.1
    simp only [Bool.and_eq_true] at h1
    exact ⟨its, k, T, rfl, rfl, h1.1, Nat.le_of_ble_eq_true h1.2, hr.2⟩
  · exact h.elim
theorem get_ok : SpecOK Tryz.prog elTT 102 getS := by
  refine spec_of_exF (cfg := cfg116) (yg rfl rfl rfl) (sigGet0_ok place_ok rfl) (fn := Tryz.f102) (by kernel_rfl) (by kernel_rfl) (by kernel_rfl) ?_
  intro args H K h
  obtain ⟨its, k, T, rfl, rfl, hs, hl, hk⟩ := getS_elim h
  have hp := sortedI_of hs
  refine Eq.mpr (nf116 its k T K) (Req_intro (by simp [hs, hl]) (br_intro (fun h1 => ?_) (fun h1 => ?_)))
  · have h1 : hasI its k = false := by simpa using h1
    have : lookI its k = none := by unfold hasI at h1; simpa using h1
    rw [this, h1] at hk
    exact hk
  · have h1 : hasI its k = true := by simpa using h1
    obtain ⟨b1, b2, b3⟩ := hasI_split hp h1
    simp only [offs_nat, inR_nat b1, Req_true, Int.toNat_natCast]
    rw [b3, h1] at hk
    exact hk
theorem putS_elim {args : List V} {H : Heap} {K : V → Heap → Prop} (h : putS.tr args H K) : ∃ (its : List (List Int)) (k x : Int) (T : TypeId), args = [.ptr 0 0, vi k, vi x] ∧ H = [.cells T [.row 1], .row 5 its false] ∧ sortedI its = true ∧ (putI its k x).length ≤ 1048576 ∧
    br (hasI its k) (K (vb false) [.cells T [.row 1], .row 5 (putI its k x) false]) (K (vb true) [.cells T [.row 2], .dead, .row 5 (putI its k x) false]) := by
  unfold putS at h
  simp only at h
  split at h
  · rename_i k x T its
    have hr := Req_elim h
    have h1 := hr.1
    simp only [Bool.and_eq_true] at h1
    exact ⟨its, k, x, T, rfl, rfl, h1.1, Nat.le_of_ble_eq_true h1.2, hr.2⟩
  · exact h.elim
theorem put_ok : SpecOK Tryz.prog elTT 134 putS := by
  refine spec_of_exF (cfg := cfg115) (yg rfl rfl rfl) (sigGet0_ok place_ok rfl) (fn := Tryz.f134) (by kernel_rfl) (by kernel_rfl) (by kernel_rfl) ?_
  intro args H K h
  obtain ⟨its, k, x, T, rfl, rfl, hs, hl, hk⟩ := putS_elim h
  have hp := sortedI_of hs
  have hlow := lowI_le k its
  have hle : its.length ≤ (putI its k x).length := by
    unfold putI; split
    · simp
    · simp; omega
  refine Eq.mpr (nf115 its k T x K) (Req_intro (by simp [hs]; omega) (br_intro (fun h1 => ?_) (fun h1 => ?_)))
  · obtain ⟨b1, b2, b3⟩ := hasI_split hp h1
    simp only [offs_nat, inR_nat b1, Req_true, Int.toNat_natCast]
    rw [h1] at hk
    have hk : K (vb false) [.cells T [.row 1], .row 5 (putI its k x) false] := hk
    have e : putI its k x = its.set (lowI its k) [kA its (lowI its k), x] := by unfold putI; rw [if_pos h1, b2]
    rw [e] at hk
    exact hk
  · rw [h1] at hk
    have hk : K (vb true) [.cells T [.row 2], .dead, .row 5 (putI its k x) false] := hk
    have e : putI its k x = its.take (lowI its k) ++ [k, x] :: its.drop (lowI its k) := by unfold putI; rw [if_neg (by rw [h1]; simp)]
    have hl' : its.length + 1 ≤ 1048576 := by
      rw [e] at hl; simp at hl; omega
    rw [e] at hk
    have hw : Go.IntKind.i64.wrap ((lowI its k : Int) + 1) = ((lowI its k + 1 : Nat) : Int) := wrap_succ (by omega)
    rw [hw]
    simp only [offs_nat, Int.toNat_natCast]
    have hpl := put_list hlow [0, 0] [k, x]
    have hll := congrArg List.length hpl
    simp only [List.length_set] at hll
    have hlen2 : (its.take (lowI its k) ++ [k, x] :: its.drop (lowI its k)).length = its.length + 1 := by simp; omega
    rw [hlen2] at hll
    refine Req_intro (by simpa using hl') (Req_intro (decide_eq_true ?_) (Req_intro (decide_eq_true ?_) (Req_intro (decide_eq_true ?_) (Req_intro (decide_eq_true ?_) (Req_intro (inR_nat ?_) (Req_intro (inR_nat ?_) ?_))))))
    · simp; omega
    · simp; omega
    · simp; omega
    · simp; omega
    · rw [hll]; omega
    · rw [hll]; omega
    · rw [hpl]; exact hk
theorem len_ok : SpecOK Tryz.prog elTT 143 lenS := by
  refine spec_of_exF (cfg := cfg115) (yg rfl rfl rfl) (sigGet0_ok place_ok rfl) (fn := Tryz.f143) (by kernel_rfl) (by kernel_rfl) (by kernel_rfl) ?_
  intro args H K h
  unfold lenS at h
  simp only at h
  split at h
  · rename_i T its
    exact Eq.mpr (nf113 its T K) h
  · exact h.elim
theorem new_ok : SpecOK Tryz.prog elTT 70 newS := by
  refine spec_of_exF (cfg := cfg115) (yg rfl rfl rfl) (sigGet0_ok place_ok rfl) (fn := Tryz.f70) (by kernel_rfl) (by kernel_rfl) (by kernel_rfl) ?_
  intro args H K h
  unfold newS at h
  simp only at h
  split at h
  · exact Eq.mpr (nf103 K) h
  · exact h.elim
end Go.Rx
end

section
namespace Go.Rx
open Go.Proofs
def prOf (e : List Int) : Pr := ⟨e.getD 0 0, e.getD 1 0⟩
def pair1S : Spec := ⟨fun args H K => match args with
  | [.ext (.int .i64 a), .ext (.int .i64 x), .ptr 0 0] => match H with
    | [.cells U [.ext (.slice none 0 0)]] => K (vb true) [.cells U [.row 1], .row 2 [⟨a, x⟩] false]
    | [.cells U [.row 1], .row 2 l false] => Req (decide (l.length + 1 ≤ 1048576)) (K (vb true) [.cells U [.row 2], .dead, .row 2 (l ++ [⟨a, x⟩]) false])
    | _ => False
  | _ => False, false⟩
def eachS : Spec := ⟨fun args H K => match args, H with
  | [.ptr 0 0, .fn 109 [.ptr 1 0]], [.cells T [.row 2], .cells U [.ext (.slice none 0 0)], .row 5 its true] => Req (Nat.ble its.length 1048576)
    (br (Nat.beq its.length 0) (K (.tup []) [.cells T [.row 2], .cells U [.ext (.slice none 0 0)], .row 5 its true]) (K (.tup []) [.cells T [.row 2], .cells U [.row 3], .row 5 its true, .row 2 (its.map prOf) false]))
  | _, _ => False, false⟩
def pairsS : Spec := ⟨fun args H K => match args, H with
  | [.ptr 0 0], [.cells T [.row 1], .row 5 its true] => Req (Nat.ble its.length 1048576) (K (.row 2) [.cells T [.row 1], .row 5 its true, .row 2 (its.map prOf) false])
  | _, _ => False, true⟩
def askS : Spec := ⟨fun args H K => match args, H with
  | [.ptr 0 0, .ext (.int .i64 a)], [.cells T [.row 1, .mp 2, .row 3], .row 0 ws true, .map m n, .row 2 nd false] => Req (inR a ws.length)
    (br ((m a).getD 0 == 0)
      (Req (decide (nd.length + 1 ≤ 1048576)) (K (.tup [vi (List.getD ws (Int.toNat (offs a 0)) 0), vb true]) [.cells T [.row 1, .mp 2, .row 4], .row 0 ws true, .map (mapSet m a (IntKind.i64.wrap ((m a).getD 0 + 1))) (n + 1), .dead, .row 2 (nd ++ [⟨a, List.getD ws (Int.toNat (offs a 0)) 0⟩]) false]))
      (K (.tup [vi (List.getD ws (Int.toNat (offs a 0)) 0), vb true]) [.cells T [.row 1, .mp 2, .row 3], .row 0 ws true, .map m n, .row 2 nd false]))
  | _, _ => False, false⟩
noncomputable def cfg110 : Cfg := { cfgB with sigs := sigGet }
def sigEach : FuncId → Option Spec := fun f => match f with
  | 109 => some pair1S
  | 143 => some lenS
  | _ => none
noncomputable def cfg109 : Cfg := { cfgB with
  sigs := sigEach
  keep := fun r => match r with | 1 => some [(0, none), (1, none), (6, none), (7, none)] | _ => none
  keepB := fun r => match r with | 0 => some [] | _ => none
  plan := fun r => match r with | 3 => some (List.range 19, 2) | _ => none }
def sigPairs : FuncId → Option Spec := fun f => match f with
  | 108 => some eachS
  | _ => none
noncomputable def cfg105 : Cfg := { cfgB with sigs := sigPairs }
noncomputable def cfg97 : Cfg := { cfgB with sigs := sigPairs }
end Go.Rx
end

section
namespace Go.Rx
open Go.Proofs
set_option maxRecDepth 100000
theorem nf110a (a x : Int) (U : TypeId) (K : V → Heap → Prop) : (exF cfg110 Tryz.f109 [vi a, vi x, .ptr 0 0] [.cells U [.ext (.slice none 0 0)]] K) = (
    K (vb (Bool.true)) [.cells U [.row 1], .row 2 ([Go.Rx.Pr.mk a x] : List (Go.Rx.Pr)) Bool.false]) := by
  kernel_rfl
theorem nf110b (a x : Int) (U : TypeId) (l : List Pr) (K : V → Heap → Prop) : (exF cfg110 Tryz.f109 [vi a, vi x, .ptr 0 0] [.cells U [.row 1], .row 2 l false] K) = (
    Req (Decidable.decide (List.length l + 1 ≤ 1048576))
      (
      K (vb (Bool.true)) [.cells U [.row 2], .dead, .row 2 (l ++ [Go.Rx.Pr.mk a x] : List (Go.Rx.Pr)) Bool.false])) := by
  kernel_rfl
theorem nf109 (its : List (List Int)) (T U : TypeId) (K : V → Heap → Prop) : (exF cfg109 Tryz.f108 [.ptr 0 0, .fn 109 [.ptr 1 0]] [.cells T [.row 2], .cells U [.ext (.slice none 0 0)], .row 5 its true] K) = (
    Loop cfg109 (⟨30, 3⟩ : Cx) (at_ (bodyOf Tryz.f108) [1, 0, 0])  (mkEnv [(0, .ptr 0 0), (1, .fn 109 [.ptr 1 0]), (6, vi ((↑(List.length its) : Int))), (7, vi (0))]) [.cells T [.row 2], .cells U [.ext (Go.Value.slice Option.none 0 0)], .row 5 (its : List (List Int)) Bool.true] (contK cfg109 (⟨30, 3⟩ : Cx) (bodyOf Tryz.f108) [1, 0] (retK cfg109 Tryz.f108 3 K))) := by
  kernel_rfl
theorem nf109a (its : List (List Int)) (T U : TypeId) (n i : Int) (K : V → Heap → Prop) (J : Env → Heap → Prop) : (ex cfg109 (⟨30, 3⟩ : Cx) (at_ (bodyOf Tryz.f108) [1, 0, 0]) (mkEnv [(0, .ptr 0 0), (1, .fn 109 [.ptr 1 0]), (6, vi n), (7, vi i)]) [.cells T [.row 2], .cells U [.ext (.slice none 0 0)], .row 5 its true] (roundK cfg109 (⟨30, 3⟩ : Cx) (at_ (bodyOf Tryz.f108) [1, 0, 0]) (contK cfg109 (⟨30, 3⟩ : Cx) (bodyOf Tryz.f108) [1, 0] (retK cfg109 Tryz.f108 3 K)) J)) = (
    br (Decidable.decide (i < n))
      (
      Req (Go.Rx.inR i (List.length its))
        (
        Req (Go.Rx.inR (Go.Rx.offs i 0) (List.length its))
          (
          Req (Go.Rx.inR i (List.length its))
            (
            Req (Go.Rx.inR (Go.Rx.offs i 0) (List.length its))
              (
              J (mkEnv [(0, .ptr 0 0), (1, .fn 109 [.ptr 1 0]), (6, vi (n)), (7, vi (Go.IntKind.wrap Go.IntKind.i64 (i + 1)))]) [.cells T [.row 2], .cells U [.row 3], .row 5 (its : List (List Int)) Bool.true, .row 2 ([Go.Rx.Pr.mk (List.getD (List.getD its (Int.toNat (Go.Rx.offs i (0 : Nat))) (List.replicate (2 : Nat) (0 : Int))) (0 : Nat) (0 : Int)) (List.getD (List.getD its (Int.toNat (Go.Rx.offs i (0 : Nat))) (List.replicate (2 : Nat) (0 : Int))) (1 : Nat) (0 : Int))] : List (Go.Rx.Pr)) Bool.false])))))
      (
      K (.tup []) [.cells T [.row 2], .cells U [.ext (Go.Value.slice Option.none 0 0)], .row 5 (its : List (List Int)) Bool.true])) := by
  kernel_rfl
theorem nf109b (its : List (List Int)) (T U : TypeId) (n i : Int) (l : List Pr) (K : V → Heap → Prop) (J : Env → Heap → Prop) : (ex cfg109 (⟨30, 3⟩ : Cx) (at_ (bodyOf Tryz.f108) [1, 0, 0]) (mkEnv [(0, .ptr 0 0), (1, .fn 109 [.ptr 1 0]), (6, vi n), (7, vi i)]) [.cells T [.row 2], .cells U [.row 3], .row 5 its true, .row 2 l false] (roundK cfg109 (⟨30, 3⟩ : Cx) (at_ (bodyOf Tryz.f108) [1, 0, 0]) (contK cfg109 (⟨30, 3⟩ : Cx) (bodyOf Tryz.f108) [1, 0] (retK cfg109 Tryz.f108 3 K)) J)) = (
    br (Decidable.decide (i < n))
      (
      Req (Go.Rx.inR i (List.length its))
        (
        Req (Go.Rx.inR (Go.Rx.offs i 0) (List.length its))
          (
          Req (Go.Rx.inR i (List.length its))
            (
            Req (Go.Rx.inR (Go.Rx.offs i 0) (List.length its))
              (
              Req (Decidable.decide (List.length l + 1 ≤ 1048576))
                (
                J (mkEnv [(0, .ptr 0 0), (1, .fn 109 [.ptr 1 0]), (6, vi (n)), (7, vi (Go.IntKind.wrap Go.IntKind.i64 (i + 1)))]) [.cells T [.row 2], .cells U [.row 3], .row 5 (its : List (List Int)) Bool.true, .row 2 (l ++ [Go.Rx.Pr.mk (List.getD (List.getD its (Int.toNat (Go.Rx.offs i (0 : Nat))) (List.replicate (2 : Nat) (0 : Int))) (0 : Nat) (0 : Int)) (List.getD (List.getD its (Int.toNat (Go.Rx.offs i (0 : Nat))) (List.replicate (2 : Nat) (0 : Int))) (1 : Nat) (0 : Int))] : List (Go.Rx.Pr)) Bool.false]))))))
      (
      K (.tup []) [.cells T [.row 2], .cells U [.row 3], .row 5 (its : List (List Int)) Bool.true, .row 2 (l : List (Go.Rx.Pr)) Bool.false])) := by
  kernel_rfl
theorem nf105 (its : List (List Int)) (T : TypeId) (K : V → Heap → Prop) : (exF cfg105 Tryz.f72 [.ptr 0 0] [.cells T [.row 1], .row 5 its true] K) = (
    Req (Nat.ble (List.length its) 1048576)
      (
      br (Nat.beq (List.length its) 0)
        (
        K (.row 2) [.cells T [.row 1], .row 5 (its : List (List Int)) Bool.true, .row 2 ([] : List (Go.Rx.Pr)) Bool.false])
        (
        K (.row 2) [.cells T [.row 1], .row 5 (its : List (List Int)) Bool.true, .row 2 (List.map Go.Rx.prOf its : List (Go.Rx.Pr)) Bool.false]))) := by
  kernel_rfl
theorem nf97 (ws : List Int) (m : Int → Option Int) (n : Nat) (nd : List Pr) (a : Int) (T : TypeId) (K : V → Heap → Prop) : (exF cfg97 Tryz.f40 [.ptr 0 0, vi a] [.cells T [.row 1, .mp 2, .row 3], .row 0 ws true, .map m n, .row 2 nd false] K) = (
    br (Decidable.decide (a ≥ (↑(List.length ws) : Int)))
      (
      K (.tup [vi (0), vb (Bool.false)]) [.cells T [.row 1, .mp 2, .row 3], .row 0 (ws : List (Int)) Bool.true, .map (m) (n), .row 2 (nd : List (Go.Rx.Pr)) Bool.false])
      (
      Req (Go.Rx.inR a (List.length ws))
        (
        Req (Go.Rx.inR (Go.Rx.offs a 0) (List.length ws))
          (
          br (Option.getD (m a) 0 == 0)
            (
            Req (Decidable.decide (List.length nd + 1 ≤ 1048576))
              (
              K (.tup [vi (List.getD ws (Int.toNat (Go.Rx.offs a 0)) 0), vb (Bool.true)]) [.cells T [.row 1, .mp 2, .row 4], .row 0 (ws : List (Int)) Bool.true, .map (Go.Rx.mapSet m a (Go.IntKind.wrap Go.IntKind.i64 (Option.getD (m a) 0 + 1))) (n + 1), .dead, .row 2 (nd ++ [Go.Rx.Pr.mk a (List.getD ws (Int.toNat (Go.Rx.offs a 0)) 0)] : List (Go.Rx.Pr)) Bool.false]))
            (
            K (.tup [vi (List.getD ws (Int.toNat (Go.Rx.offs a 0)) 0), vb (Bool.true)]) [.cells T [.row 1, .mp 2, .row 3], .row 0 (ws : List (Int)) Bool.true, .map (m) (n), .row 2 (nd : List (Go.Rx.Pr)) Bool.false]))))) := by
  kernel_rfl
end Go.Rx
end

section
namespace Go.Rx
open Go.Proofs
attribute [local irreducible] Loop ex exF contK roundK retK at_ bodyOf mkEnv mkA
theorem pair1_ok : SpecOK Tryz.prog elTT 109 pair1S := by
  refine spec_of_exF (cfg := cfg110) (yg rfl rfl rfl) (sigGet0_ok place_ok rfl) (fn := Tryz.f109) (by kernel_rfl) (by kernel_rfl) (by kernel_rfl) ?_
  intro args H K h
  unfold pair1S at h
  simp only at h
  split at h
  · rename_i a x
    split at h
    · rename_i U
      exact Eq.mpr (nf110a a x U K) h
    · rename_i U l
      exact Eq.mpr (nf110b a x U l K) h
    · exact h.elim
  · exact h.elim
theorem sigEach_ok : ∀ g s, sigEach g = some s → SpecOK Tryz.prog elTT g s := by
  intro g s hg
  unfold sigEach at hg
  split at hg
  · injection hg with hg; subst hg; exact pair1_ok
  · injection hg with hg; subst hg; exact len_ok
  · cases hg
theorem eachS_elim {args : List V} {H : Heap} {K : V → Heap → Prop} (h : eachS.tr args H K) : ∃ (its : List (List Int)) (T U : TypeId), args = [.ptr 0 0, .fn 109 [.ptr 1 0]] ∧ H = [.cells T [.row 2], .cells U [.ext (.slice none 0 0)], .row 5 its true] ∧ its.length ≤ 1048576 ∧
    br (Nat.beq its.length 0) (K (.tup []) [.cells T [.row 2], .cells U [.ext (.slice none 0 0)], .row 5 its true]) (K (.tup []) [.cells T [.row 2], .cells U [.row 3], .row 5 its true, .row 2 (its.map prOf) false]) := by
  unfold eachS at h
  simp only at h
  split at h
  · rename_i T U its
    have hr := Req_elim h
    exact ⟨its, T, U, rfl, rfl, Nat.le_of_ble_eq_true hr.1, hr.2⟩
  · exact h.elim
theorem map_take_succ {its : List (List Int)} {i : Nat} (h : i < its.length) : (its.take (i + 1)).map prOf = (its.take i).map prOf ++ [⟨(its.getD i (List.replicate 2 0)).getD 0 0, (its.getD i (List.replicate 2 0)).getD 1 0⟩] := by
  rw [List.take_succ_eq_append_getElem h, List.map_append]
  simp [prOf, List.getD, List.getElem?_eq_getElem h]
def eachR (its : List (List Int)) (T U : TypeId) (l : List Pr) : Heap := [.cells T [.row 2], .cells U [.row 3], .row 5 its true, .row 2 l false]
def eachH (its : List (List Int)) (T U : TypeId) (i : Nat) : Heap := match i with
  | 0 => [.cells T [.row 2], .cells U [.ext (.slice none 0 0)], .row 5 its true]
  | i + 1 => [.cells T [.row 2], .cells U [.row 3], .row 5 its true, .row 2 ((its.take (i + 1)).map prOf) false]
theorem each_ok : SpecOK Tryz.prog elTT 108 eachS := by
  refine spec_of_exF (cfg := cfg109) (yg rfl rfl rfl) sigEach_ok (fn := Tryz.f108) (by kernel_rfl) (by kernel_rfl) (by kernel_rfl) ?_
  intro args H K h
  obtain ⟨its, T, U, rfl, rfl, hl, hk⟩ := eachS_elim h
  refine Eq.mpr (nf109 its T U K) ?_
  refine loop_ind (σ := Nat) (fun i => mkEnv [(0, .ptr 0 0), (1, .fn 109 [.ptr 1 0]), (6, vi (its.length : Int)), (7, vi i)]) (fun i => eachH its T U i) (fun i => i ≤ its.length) (fun i => its.length - i) ?_ 0 (Nat.zero_le _)
  intro i hi J hJ
  match i with
  | 0 =>
    refine Eq.mpr (nf109a its T U its.length (0 : Nat) K J) (br_intro (fun h1 => ?_) (fun h1 => ?_))
    · have h1 : 0 < its.length := by simpa using h1
      have hn := hJ 1 h1 (by omega)
      simp only [offs_nat, inR_nat h1, Req_true, Int.toNat_natCast, wrap_succ (show 0 ≤ 4611686018427387904 by omega)]
      have e : eachH its T U 1 = eachR its T U [⟨(its.getD 0 (List.replicate 2 0)).getD 0 0, (its.getD 0 (List.replicate 2 0)).getD 1 0⟩] := congrArg (eachR its T U) (map_take_succ h1)
      rw [e] at hn
      exact hn
    · have h1 : its.length = 0 := by simpa using h1
      rw [h1] at hk
      exact hk
  | i + 1 =>
    refine Eq.mpr (nf109b its T U its.length ((i + 1 : Nat) : Int) ((its.take (i + 1)).map prOf) K J) (br_intro (fun h1 => ?_) (fun h1 => ?_))
    · have h1 : i + 1 < its.length := by simp at h1; omega
      have hn := hJ (i + 1 + 1) h1 (by omega)
      simp only [offs_nat, inR_nat h1, Req_true, Int.toNat_natCast, wrap_succ (show i + 1 ≤ 4611686018427387904 by omega)]
      have e : eachH its T U (i + 1 + 1) = eachR its T U ((its.take (i + 1)).map prOf ++ [⟨(its.getD (i + 1) (List.replicate 2 0)).getD 0 0, (its.getD (i + 1) (List.replicate 2 0)).getD 1 0⟩]) := congrArg (eachR its T U) (map_take_succ h1)
      rw [e] at hn
      refine Req_intro (decide_eq_true ?_) hn
      simp; omega
    · have h1 : i + 1 = its.length := by simp at h1; omega
      have h0 : Nat.beq its.length 0 = false := by rw [← h1]; rfl
      rw [h0] at hk
      have : its.take (i + 1) = its := by rw [h1]; exact List.take_length
      rw [this]
      exact hk
theorem sigPairs_ok : ∀ g s, sigPairs g = some s → SpecOK Tryz.prog elTT g s := by
  intro g s hg
  unfold sigPairs at hg
  split at hg
  · injection hg with hg; subst hg; exact each_ok
  · cases hg
theorem pairs_ok : SpecOK Tryz.prog elTT 72 pairsS := by
  refine spec_of_exF (cfg := cfg105) (yg rfl rfl rfl) sigPairs_ok (fn := Tryz.f72) (by kernel_rfl) (by kernel_rfl) (by kernel_rfl) ?_
  intro args H K h
  unfold pairsS at h
  simp only at h
  split at h
  · rename_i T its
    have hr := Req_elim h
    refine Eq.mpr (nf105 its T K) (Req_intro hr.1 (br_intro (fun h1 => ?_) (fun _ => hr.2)))
    have h1 : List.length its = 0 := Nat.eq_of_beq_eq_true h1
    have h2 : its = [] := List.eq_nil_of_length_eq_zero h1
    subst h2
    exact hr.2
  · exact h.elim
theorem askS_elim {args : List V} {H : Heap} {K : V → Heap → Prop} (h : askS.tr args H K) : ∃ (ws : List Int) (m : Int → Option Int) (n : Nat) (nd : List Pr) (a : Int) (T : TypeId), args = [.ptr 0 0, vi a] ∧ H = [.cells T [.row 1, .mp 2, .row 3], .row 0 ws true, .map m n, .row 2 nd false] ∧ inR a ws.length = true ∧
    br ((m a).getD 0 == 0)
      (Req (decide (nd.length + 1 ≤ 1048576)) (K (.tup [vi (List.getD ws (Int.toNat (offs a 0)) 0), vb true]) [.cells T [.row 1, .mp 2, .row 4], .row 0 ws true, .map (mapSet m a (IntKind.i64.wrap ((m a).getD 0 + 1))) (n + 1), .dead, .row 2 (nd ++ [⟨a, List.getD ws (Int.toNat (offs a 0)) 0⟩]) false]))
      (K (.tup [vi (List.getD ws (Int.toNat (offs a 0)) 0), vb true]) [.cells T [.row 1, .mp 2, .row 3], .row 0 ws true, .map m n, .row 2 nd false]) := by
  unfold askS at h
  simp only at h
  split at h
  · rename_i a T ws m n nd
    have hr := Req_elim h
    exact ⟨ws, m, n, nd, a, T, rfl, rfl, hr.1, hr.2⟩
  · exact h.elim
theorem ask_ok : SpecOK Tryz.prog elTT 40 askS := by
  refine spec_of_exF (cfg := cfg97) (yg rfl rfl rfl) sigPairs_ok (fn := Tryz.f40) (by kernel_rfl) (by kernel_rfl) (by kernel_rfl) ?_
  intro args H K h
  obtain ⟨ws, m, n, nd, a, T, rfl, rfl, h1, h2⟩ := askS_elim h
  have h3 := h1
  unfold inR at h3
  simp at h3
  refine Eq.mpr (nf97 ws m n nd a T K) (br_false (decide_eq_false (by omega)) (Req_intro h1 (Req_intro ?_ h2)))
  have : offs a 0 = a := by
    have : a = ((a.toNat : Nat) : Int) := by omega
    rw [this]; rfl
  rw [this]; exact h1
end Go.Rx
end

section
namespace Go.Rx
open Go.Proofs
def readS : Spec := ⟨fun args H K => match args, H with
  | [.ptr 0 0, .ext (.int .i64 a)], [.pk 0 [ws, cur] xs [.row 1], .row 0 l true] => Req (eqL l ws && (Nat.ble xs.length 2 && inR a ws.length)) (K (vi (cur.getD a.toNat 0)) [.pk 0 [ws, cur] xs [.row 1], .row 0 l true])
  | _, _ => False, false⟩
def writeS : Spec := ⟨fun args H K => match args, H with
  | [.ptr 0 0, .ext (.int .i64 a), .ext (.int .i64 x)], [.pk 0 [ws, cur] xs [.row 1], .row 0 l true] => Req (eqL l ws && (Nat.ble xs.length 2 && inR a ws.length)) (K (.tup []) [.pk 0 [ws, cur.set a.toNat x] xs [.row 1], .row 0 l true])
  | _, _ => False, false⟩
def sigRW : FuncId → Option Spec := fun f => match f with
  | 40 => some askS
  | 134 => some putS
  | 102 => some getS
  | _ => none
noncomputable def cfg114 : Cfg := { cfgB with sigs := sigRW }
end Go.Rx
end

section
namespace Go.Rx
open Go.Proofs
set_option maxRecDepth 100000
theorem nf114 (ws : List Int) (m : Int → Option Int) (n : Nat) (nd : List Pr) (its : List (List Int)) (a : Int) (K : V → Heap → Prop) : (exF cfg114 Tryz.f63 [.ptr 0 0, vi a] (viewHeap 40 (.row 0 ws true) m n nd its) K) = (
    br (Decidable.decide (a < 0))
      (
      K (vi (0)) [.cells 0 [.mth 40 (.ptr 1 0), .ptr 3 0, vb (Bool.true)], .cells 0 [.row 2, .mp 4, .row 5], .row 0 (ws : List (Int)) Bool.true, .cells 0 [.row 6], .map (m) (n), .row 2 (nd : List (Go.Rx.Pr)) Bool.false, .row 5 (its : List (List Int)) Bool.false])
      (
      Req (Go.Rx.sortedI its && Nat.ble (List.length its) 1048577)
        (
        br (Go.Rx.hasI its a)
          (
          K (vi (Option.getD (Go.Rx.lookI its a) 0)) [.cells 0 [.mth 40 (.ptr 1 0), .ptr 3 0, vb (Bool.true)], .cells 0 [.row 2, .mp 4, .row 5], .row 0 (ws : List (Int)) Bool.true, .cells 0 [.row 6], .map (m) (n), .row 2 (nd : List (Go.Rx.Pr)) Bool.false, .row 5 (its : List (List Int)) Bool.false])
          (
          Req (Go.Rx.inR a (List.length ws))
            (
            br (Option.getD (m a) 0 == 0)
              (
              Req (Decidable.decide (List.length nd + 1 ≤ 1048576))
                (
                K (vi (List.getD ws (Int.toNat (Go.Rx.offs a 0)) 0)) [.cells 0 [.mth 40 (.ptr 1 0), .ptr 3 0, vb (Bool.true)], .cells 0 [.row 2, .mp 4, .row 7], .row 0 (ws : List (Int)) Bool.true, .cells 0 [.row 6], .map (Go.Rx.mapSet m a (Go.IntKind.wrap Go.IntKind.i64 (Option.getD (m a) 0 + 1))) (n + 1), .dead, .row 5 (its : List (List Int)) Bool.false, .row 2 (nd ++ [Go.Rx.Pr.mk a (List.getD ws (Int.toNat (Go.Rx.offs a 0)) 0)] : List (Go.Rx.Pr)) Bool.false]))
              (
              K (vi (List.getD ws (Int.toNat (Go.Rx.offs a 0)) 0)) [.cells 0 [.mth 40 (.ptr 1 0), .ptr 3 0, vb (Bool.true)], .cells 0 [.row 2, .mp 4, .row 5], .row 0 (ws : List (Int)) Bool.true, .cells 0 [.row 6], .map (m) (n), .row 2 (nd : List (Go.Rx.Pr)) Bool.false, .row 5 (its : List (List Int)) Bool.false])))))) := by
  kernel_rfl
theorem nf112 (ws : List Int) (m : Int → Option Int) (n : Nat) (nd : List Pr) (its : List (List Int)) (a : Int) (x : Int) (K : V → Heap → Prop) : (exF cfg114 Tryz.f96 [.ptr 0 0, vi a, vi x] (viewHeap 40 (.row 0 ws true) m n nd its) K) = (
    br (Decidable.decide (a < 0))
      (
      K (.tup []) [.cells 0 [.mth 40 (.ptr 1 0), .ptr 3 0, vb (Bool.true)], .cells 0 [.row 2, .mp 4, .row 5], .row 0 (ws : List (Int)) Bool.true, .cells 0 [.row 6], .map (m) (n), .row 2 (nd : List (Go.Rx.Pr)) Bool.false, .row 5 (its : List (List Int)) Bool.false])
      (
      Req (Go.Rx.sortedI its && Nat.ble (List.length (Go.Rx.putI its a x)) 1048576)
        (
        br (Go.Rx.hasI its a)
          (
          K (.tup []) [.cells 0 [.mth 40 (.ptr 1 0), .ptr 3 0, vb (Bool.true)], .cells 0 [.row 2, .mp 4, .row 5], .row 0 (ws : List (Int)) Bool.true, .cells 0 [.row 6], .map (m) (n), .row 2 (nd : List (Go.Rx.Pr)) Bool.false, .row 5 (Go.Rx.putI its a x : List (List Int)) Bool.false])
          (
          K (.tup []) [.cells 0 [.mth 40 (.ptr 1 0), .ptr 3 0, vb (Bool.true)], .cells 0 [.row 2, .mp 4, .row 5], .row 0 (ws : List (Int)) Bool.true, .cells 0 [.row 7], .map (m) (n), .row 2 (nd : List (Go.Rx.Pr)) Bool.false, .dead, .row 5 (Go.Rx.putI its a x : List (List Int)) Bool.false])))) := by
  kernel_rfl
end Go.Rx
end

section
namespace Go.Rx
open Go.Proofs
attribute [local irreducible] Loop ex exF contK roundK retK at_ bodyOf mkEnv mkA
theorem sorted_len {n : Int} : ∀ {its : List (List Int)} {lo : Int}, its.Pairwise (fun x y => keyOf x < keyOf y) → (∀ e ∈ its, lo ≤ keyOf e ∧ keyOf e < n) → (its.length : Int) ≤ max (n - lo) 0
  | [], _, _, _ => by simp; omega
  | e :: r, lo, h, hb => by
    rw [List.pairwise_cons] at h
    have h0 := hb e (by simp)
    have := sorted_len (n := n) (its := r) (lo := keyOf e + 1) h.2 (fun y hy => ⟨by have := h.1 y hy; omega, (hb y (by simp [hy])).2⟩)
    simp only [List.length_cons]
    omega
theorem nodup_len : ∀ {n : Nat} {l : List Nat}, l.Nodup → (∀ x ∈ l, x < n) → l.length ≤ n
  | 0, l, _, hb => by
    cases l with
    | nil => simp
    | cons x r => have := hb x (by simp); omega
  | n + 1, l, h, hb => by
    by_cases hn : n ∈ l
    · have h1 := h.erase n
      have h2 : ∀ x ∈ l.erase n, x < n := fun x hx => by
        have := (h.mem_erase_iff).1 hx
        have := hb x this.2
        omega
      have := nodup_len h1 h2
      rw [List.length_erase_of_mem hn] at this
      omega
    · have := nodup_len h (n := n) (fun x hx => by
        have := hb x hx
        have : x ≠ n := fun e => hn (e ▸ hx)
        omega)
      omega
theorem nd_len {ws : List Int} {nd : List Pr} (h1 : ∀ p ∈ nd, 0 ≤ p.Addr ∧ p.Addr < (ws.length : Int)) (h2 : nd.Pairwise (fun x y => x.Addr ≠ y.Addr)) : nd.length ≤ ws.length := by
  have : (nd.map fun p => p.Addr.toNat).length ≤ ws.length := by
    refine nodup_len ?_ (fun x hx => ?_)
    · refine List.pairwise_map.2 ?_
      refine List.Pairwise.imp_of_mem (fun {x y} hx hy hxy => ?_) h2
      have := h1 x hx
      have := h1 y hy
      omega
    · obtain ⟨p, hp, rfl⟩ := List.mem_map.1 hx
      have := h1 p hp
      omega
  simpa using this
theorem view_its {ws cur : List Int} {m : Int → Option Int} {nd : List Pr} {its : List (List Int)} (h : ViewOK ws cur m nd its) : its.length ≤ ws.length := by
  have := sorted_len (n := (ws.length : Int)) (lo := 0) h.sorted h.keys
  omega
theorem view_val {ws cur : List Int} {m : Int → Option Int} {nd : List Pr} {its : List (List Int)} (h : ViewOK ws cur m nd its) {a : Int} (ha : inR a ws.length = true) :
    cur.getD a.toNat 0 = (lookI its a).getD (ws.getD a.toNat 0) ∧ offs a 0 = a := by
  unfold inR at ha
  simp at ha
  have e : a = ((a.toNat : Nat) : Int) := by omega
  refine ⟨?_, by rw [e]; rfl⟩
  have := h.cur a.toNat (by omega)
  rw [this]
  conv => lhs; rw [← e]
theorem ViewOK.asks {ws cur : List Int} {m : Int → Option Int} {nd : List Pr} {its : List (List Int)} (h : ViewOK ws cur m nd its) {a : Int} (ha : inR a ws.length = true) (hm : ((m a).getD 0 == 0) = true) (x : Int) :
    ViewOK ws cur (mapSet m a (IntKind.i64.wrap ((m a).getD 0 + 1))) (nd ++ [⟨a, x⟩]) its ∧ nd.length + 1 ≤ 1048576 := by
  unfold inR at ha
  simp at ha
  have hm : (m a).getD 0 = 0 := by simpa using hm
  have hnot : ∀ p ∈ nd, p.Addr ≠ a := fun p hp e => by
    have := h.asked p hp
    rw [e] at this
    exact this hm
  have honce : (nd ++ [(⟨a, x⟩ : Pr)]).Pairwise (fun x y => x.Addr ≠ y.Addr) := by
    rw [List.pairwise_append]
    refine ⟨h.once, by simp, fun p hp q hq => ?_⟩
    simp at hq
    subst hq
    exact hnot p hp
  have htold : ∀ p ∈ nd ++ [(⟨a, x⟩ : Pr)], 0 ≤ p.Addr ∧ p.Addr < (ws.length : Int) := fun p hp => by
    rcases List.mem_append.1 hp with hp | hp
    · exact h.told p hp
    · simp at hp; subst hp; exact ⟨by simp only; omega, by simp only; omega⟩
  refine ⟨⟨h.small, h.len, h.sorted, h.keys, h.cur, fun p hp => ?_, htold, honce⟩, ?_⟩
  · unfold mapSet
    rcases List.mem_append.1 hp with hp | hp
    · rw [if_neg (hnot p hp)]; exact h.asked p hp
    · simp at hp; subst hp
      rw [if_pos rfl, hm]
      have : IntKind.i64.wrap (0 + 1) = 1 := wrap_id (by omega) (by omega)
      rw [this]
      simp
  · have := nd_len htold honce
    have := h.small
    simp at *
    omega
theorem ViewOK.puts {ws cur : List Int} {m : Int → Option Int} {nd : List Pr} {its : List (List Int)} (h : ViewOK ws cur m nd its) {a : Int} (ha : inR a ws.length = true) (x : Int) :
    ViewOK ws (cur.set a.toNat x) m nd (putI its a x) ∧ (putI its a x).length ≤ 1048576 := by
  unfold inR at ha
  simp at ha
  obtain ⟨h1, h2, h3⟩ := putI_sorted h.sorted a x
  have hv : ViewOK ws (cur.set a.toNat x) m nd (putI its a x) := by
    refine ⟨h.small, by simp [h.len], h1, fun e he => ?_, fun i hi => ?_, h.asked, h.told, h.once⟩
    · rcases h3 e he with h4 | h4
      · exact h.keys e h4
      · rw [h4]; omega
    · rw [h2]
      have hl := h.len
      by_cases e : (i : Int) = a
      · rw [if_pos e]
        have : a.toNat = i := by omega
        rw [this]
        simp [List.getD, List.getElem?_set, hi, hl]
      · rw [if_neg e]
        have : a.toNat ≠ i := by omega
        rw [List.getD, List.getElem?_set_ne this]
        exact h.cur i hi
  exact ⟨hv, by have := view_its hv; have := h.small; omega⟩
theorem sigRW_ok : ∀ g s, sigRW g = some s → SpecOK Tryz.prog elTT g s := by
  intro g s hg
  unfold sigRW at hg
  split at hg
  · injection hg with hg; subst hg; exact ask_ok
  · injection hg with hg; subst hg; exact put_ok
  · injection hg with hg; subst hg; exact get_ok
  · cases hg
theorem readS_elim {args : List V} {H : Heap} {K : V → Heap → Prop} (h : readS.tr args H K) : ∃ (a : Int) (ws cur : List Int) (xs : List Value), args = [.ptr 0 0, vi a] ∧ H = [.pk 0 [ws, cur] xs [.row 1], .row 0 ws true] ∧ xs.length ≤ 2 ∧ inR a ws.length = true ∧
    K (vi (cur.getD a.toNat 0)) [.pk 0 [ws, cur] xs [.row 1], .row 0 ws true] := by
  unfold readS at h
  simp only at h
  split at h
  · rename_i a ws cur xs l
    have hr := Req_elim h
    have h1 := hr.1
    simp only [Bool.and_eq_true] at h1
    have e : l = ws := eqL_eq h1.1
    subst e
    exact ⟨a, l, cur, xs, rfl, rfl, Nat.le_of_ble_eq_true h1.2.1, h1.2.2, hr.2⟩
  · exact h.elim
theorem writeS_elim {args : List V} {H : Heap} {K : V → Heap → Prop} (h : writeS.tr args H K) : ∃ (a x : Int) (ws cur : List Int) (xs : List Value), args = [.ptr 0 0, vi a, vi x] ∧ H = [.pk 0 [ws, cur] xs [.row 1], .row 0 ws true] ∧ xs.length ≤ 2 ∧ inR a ws.length = true ∧
    K (.tup []) [.pk 0 [ws, cur.set a.toNat x] xs [.row 1], .row 0 ws true] := by
  unfold writeS at h
  simp only at h
  split at h
  · rename_i a x ws cur xs l
    have hr := Req_elim h
    have h1 := hr.1
    simp only [Bool.and_eq_true] at h1
    have e : l = ws := eqL_eq h1.1
    subst e
    exact ⟨a, x, l, cur, xs, rfl, rfl, Nat.le_of_ble_eq_true h1.2.1, h1.2.2, hr.2⟩
  · exact h.elim
noncomputable def exS114 : Spec := ⟨fun args H K => exF cfg114 Tryz.f63 args H K, false⟩
noncomputable def exS112 : Spec := ⟨fun args H K => exF cfg114 Tryz.f96 args H K, false⟩
theorem exS114_ok : SpecOK Tryz.prog elTT 63 exS114 :=
  spec_of_exF (cfg := cfg114) (yg rfl rfl rfl) sigRW_ok (fn := Tryz.f63) (by kernel_rfl) (by kernel_rfl) (by kernel_rfl) fun _ _ _ h => h
theorem exS112_ok : SpecOK Tryz.prog elTT 96 exS112 :=
  spec_of_exF (cfg := cfg114) (yg rfl rfl rfl) sigRW_ok (fn := Tryz.f96) (by kernel_rfl) (by kernel_rfl) (by kernel_rfl) fun _ _ _ h => h
theorem absE : elTT.abs = absView 40 := rfl
theorem ids0 : nodup [0, 1, 2, 3, 4, 5, 6] = true ∧ (∀ i, i < 3 → [0, 1, 2, 3, 4, 5, 6][i]? = some i) := ⟨rfl, fun i hi => by match i, hi with | 0, _ => rfl | 1, _ => rfl | 2, _ => rfl⟩
theorem ids1 : nodup [0, 1, 2, 3, 4, 7, 6] = true ∧ (∀ i, i < 3 → [0, 1, 2, 3, 4, 7, 6][i]? = some i) := ⟨rfl, fun i hi => by match i, hi with | 0, _ => rfl | 1, _ => rfl | 2, _ => rfl⟩
theorem ids2 : nodup [0, 1, 2, 3, 4, 5, 7] = true ∧ (∀ i, i < 3 → [0, 1, 2, 3, 4, 5, 7][i]? = some i) := ⟨rfl, fun i hi => by match i, hi with | 0, _ => rfl | 1, _ => rfl | 2, _ => rfl⟩
theorem abs_view {ws cur : List Int} {m : Int → Option Int} {nd : List Pr} {its : List (List Int)} (n : Nat) (h : ViewOK ws cur m nd its) : elTT.abs 0 [ws, cur] (viewHeap 40 .dead m n nd its) := ⟨m, n, nd, its, rfl, h⟩
theorem read_ok : SpecOK Tryz.prog elTT 63 readS := by
  refine spec_open (absView_ok absE) exS114_ok ?_
  intro args H K h
  obtain ⟨a, ws, cur, xs, rfl, rfl, hx, ha, hk⟩ := readS_elim h
  refine ⟨0, [ws, cur], xs, 0, ws, rfl, hx, rfl, fun Hc hc => ?_⟩
  obtain ⟨m, n, nd, its, rfl, hv⟩ : ∃ m n nd its, Hc = viewHeap 40 .dead m n nd its ∧ ViewOK ws cur m nd its := hc
  obtain ⟨hval, hoff⟩ := view_val hv ha
  have hlen := view_its hv
  have hsm := hv.small
  have ha2 := ha
  unfold inR at ha2
  simp at ha2
  refine Eq.mpr (nf114 ws m n nd its a _) (br_false (decide_eq_false (by omega)) (Req_intro (by simp only [sortedI, decide_eq_true hv.sorted, Bool.true_and]; exact Nat.ble_eq_true_of_le (by omega)) (br_intro (fun h1 => ?_) (fun h1 => Req_intro ha (br_intro (fun h2 => ?_) (fun h2 => ?_))))))
  · refine ⟨[ws, cur], viewHeap 40 .dead m n nd its, [0, 1, 2, 3, 4, 5, 6], rfl, abs_view n hv, ids0.1, ids0.2, rfl, ?_⟩
    unfold hasI at h1
    obtain ⟨v, hv'⟩ := Option.isSome_iff_exists.1 h1
    rw [hv'] at hval ⊢
    rw [hval] at hk
    exact hk
  · have hn : lookI its a = none := by unfold hasI at h1; simpa using h1
    rw [hn] at hval
    rw [hval] at hk
    obtain ⟨hv2, hnl⟩ := hv.asks ha h2 (List.getD ws (Int.toNat (offs a 0)) 0)
    refine Req_intro (decide_eq_true hnl) ⟨[ws, cur], viewHeap 40 .dead _ (n + 1) _ its, [0, 1, 2, 3, 4, 7, 6], rfl, abs_view (n + 1) hv2, ids1.1, ids1.2, rfl, ?_⟩
    rw [hoff]
    exact hk
  · have hn : lookI its a = none := by unfold hasI at h1; simpa using h1
    rw [hn] at hval
    rw [hval] at hk
    refine ⟨[ws, cur], viewHeap 40 .dead m n nd its, [0, 1, 2, 3, 4, 5, 6], rfl, abs_view n hv, ids0.1, ids0.2, rfl, ?_⟩
    rw [hoff]
    exact hk
theorem write_ok : SpecOK Tryz.prog elTT 96 writeS := by
  refine spec_open (absView_ok absE) exS112_ok ?_
  intro args H K h
  obtain ⟨a, x, ws, cur, xs, rfl, rfl, hx, ha, hk⟩ := writeS_elim h
  refine ⟨0, [ws, cur], xs, 0, ws, rfl, hx, rfl, fun Hc hc => ?_⟩
  obtain ⟨m, n, nd, its, rfl, hv⟩ : ∃ m n nd its, Hc = viewHeap 40 .dead m n nd its ∧ ViewOK ws cur m nd its := hc
  obtain ⟨hv2, hlen⟩ := hv.puts ha x
  have ha2 := ha
  unfold inR at ha2
  simp at ha2
  refine Eq.mpr (nf112 ws m n nd its a x _) (br_false (decide_eq_false (by omega)) (Req_intro (by simp only [sortedI, decide_eq_true hv.sorted, Bool.true_and]; exact Nat.ble_eq_true_of_le (by omega)) (br_intro (fun h1 => ?_) (fun h1 => ?_))))
  · exact ⟨[ws, cur.set a.toNat x], viewHeap 40 .dead m n nd (putI its a x), [0, 1, 2, 3, 4, 5, 6], rfl, abs_view n hv2, ids0.1, ids0.2, rfl, hk⟩
  · exact ⟨[ws, cur.set a.toNat x], viewHeap 40 .dead m n nd (putI its a x), [0, 1, 2, 3, 4, 5, 7], rfl, abs_view n hv2, ids2.1, ids2.2, rfl, hk⟩
end Go.Rx
end

section
namespace Go.Rx
open Go.Proofs
noncomputable def sigOver : FuncId → Option Spec := fun f => match f with
  | 107 => some (inlS cfgB Tryz.f107)
  | _ => none
noncomputable def cfg107 : Cfg := { cfgB with sigs := sigOver, plan := fun r => match r with | 0 => some (List.range 4, 2) | _ => none }
def opsOf0 (f : Func) : Array Oper := match f.body with
  | some (.region _ ops _) => ops
  | _ => #[]
noncomputable def f107r : Func := { Tryz.f106 with body := some (.region 0 ((opsOf0 Tryz.f106).map noRecO) true) }
noncomputable def overX : Spec := ⟨fun args H K => exF cfg107 f107r args H K, false⟩
noncomputable def sdRun : FuncId → Option Spec := fun f => match f with
  | 106 => some overX
  | _ => none
noncomputable def cfgRun (g : FuncId) (s : Spec) : Cfg := { cfgB with sigs := fun f => bif Nat.beq f g then some (packS 40 s) else none }
noncomputable def runX (g : FuncId) (s : Spec) : Spec := ⟨fun args H K => exFD (cfgRun g s) sdRun Tryz.f71 args H K, false⟩
noncomputable def sigAll (g : FuncId) (s : Spec) : FuncId → Option Spec := fun f => match f with
  | 70 => some newS
  | 71 => some (runX g s)
  | 72 => some pairsS
  | _ => none
noncomputable def cfgAll (g : FuncId) (s : Spec) : Cfg := { cfgB with sigs := sigAll g s }
noncomputable def sigDo (g : FuncId) (s : Spec) : FuncId → Option Spec := fun f => match f with
  | 39 => some (inlS (cfgAll g s) Tryz.f39)
  | _ => none
noncomputable def cfgDo (g : FuncId) (s : Spec) (k : List (Nat × Option Nat)) : Cfg := { cfgB with
  sigs := sigDo g s
  keep := fun r => match r with | 9 => some k | _ => none
  keepB := fun b => match b with | 0 => some [(0, none), (7, none), (10, none)] | _ => none
  plan := fun r => match r with | 15 => some (List.range 8, 0) | _ => none }
end Go.Rx
end

section
namespace Go.Rx
open Go.Proofs
attribute [local irreducible] Loop ex exF contK roundK retK at_ bodyOf mkEnv mkA
theorem sigOver_ok : ∀ g s, sigOver g = some s → SpecOK Tryz.prog elTT g s := by
  intro g s hs
  unfold sigOver at hs
  split at hs
  · injection hs with hs; subst hs; exact inlS_ok (cfg := cfgB) (yg rfl rfl rfl) (nosig rfl) (fn := Tryz.f107) (by kernel_rfl) (by kernel_rfl) (by kernel_rfl)
  · cases hs
theorem overX_ok : SpecDOK Tryz.prog elTT 106 overX :=
  specD_of_exF_rec (cfg := cfg107) (yg rfl rfl rfl) sigOver_ok (fn := Tryz.f106) (by kernel_rfl) (by kernel_rfl) (id := 0) (ops := opsOf0 Tryz.f106) (by kernel_rfl) (plan := List.range 4) (kd := 2) rfl rfl fun _ _ _ h => h
theorem sdRun_ok : ∀ g s, sdRun g = some s → SpecDOK Tryz.prog elTT g s := by
  intro g s hs
  unfold sdRun at hs
  split at hs
  · injection hs with hs; subst hs; exact overX_ok
  · cases hs
theorem runX_ok {g : FuncId} {s : Spec} (h : SpecOK Tryz.prog elTT g s) : SpecOK Tryz.prog elTT 71 (runX g s) :=
  spec_of_exFD (cfg := cfgRun g s) (yg rfl rfl rfl) (fun f t hs => by
    change (bif Nat.beq f g then some (packS 40 s) else none) = some t at hs
    cases hb : Nat.beq f g with
    | false => rw [hb] at hs; cases hs
    | true =>
      rw [hb] at hs
      have := Nat.eq_of_beq_eq_true hb
      subst this
      injection hs with hs; subst hs
      exact pack_ok (cfg := cfgB) absE h) sdRun_ok (fn := Tryz.f71) (by kernel_rfl) (by kernel_rfl) (by kernel_rfl) fun _ _ _ h => h
theorem sigAll_ok {g : FuncId} {s : Spec} (h : SpecOK Tryz.prog elTT g s) : ∀ f t, sigAll g s f = some t → SpecOK Tryz.prog elTT f t := by
  intro f t hs
  unfold sigAll at hs
  split at hs
  · exact (Option.some.inj hs) ▸ new_ok
  · exact (Option.some.inj hs) ▸ runX_ok h
  · exact (Option.some.inj hs) ▸ pairs_ok
  · cases hs
theorem sigDo_ok {g : FuncId} {s : Spec} (h : SpecOK Tryz.prog elTT g s) : ∀ f t, sigDo g s f = some t → SpecOK Tryz.prog elTT f t := by
  intro f t hs
  unfold sigDo at hs
  split at hs
  · refine (Option.some.inj hs) ▸ ?_
    exact inlS_ok (cfg := cfgAll g s) (yg rfl rfl rfl) (sigAll_ok h) (fn := Tryz.f39) (by kernel_rfl) (by kernel_rfl) (by kernel_rfl)
  · cases hs
def nowN (ws : List Int) (its : List (List Int)) : Nat → List Int
  | 0 => ws
  | n + 1 => (nowN ws its n).set (prOf (its.getD n [])).Addr.toNat (prOf (its.getD n [])).Val
theorem nowN_len (ws : List Int) (its : List (List Int)) : ∀ n, (nowN ws its n).length = ws.length
  | 0 => rfl
  | n + 1 => by rw [nowN, List.length_set, nowN_len]
theorem nowN_get {ws : List Int} {its : List (List Int)} (hs : its.Pairwise (fun x y => keyOf x < keyOf y)) (hb : ∀ e ∈ its, 0 ≤ keyOf e ∧ keyOf e < (ws.length : Int)) {j : Nat} (hj : j < ws.length) :
    ∀ n, n ≤ its.length → (nowN ws its n).getD j 0 = (lookI (its.take n) j).getD (ws.getD j 0)
  | 0, _ => rfl
  | n + 1, hn => by
    have hn' : n < its.length := by omega
    have ih := nowN_get hs hb hj n (by omega)
    have hg : its.getD n [] = its[n] := by simp [List.getD, List.getElem?_eq_getElem hn']
    have hk := hb its[n] (List.getElem_mem hn')
    rw [List.take_succ_eq_append_getElem hn', lookI_append]
    simp only [nowN, hg]
    show ((nowN ws its n).set (keyOf its[n]).toNat (valOf its[n])).getD j 0 = _
    by_cases e : keyOf its[n] = (j : Int)
    · have h1 : (keyOf its[n]).toNat = j := by omega
      rw [h1]
      have h2 : lookI (its.take n) (j : Int) = none := lookI_none (fun y hy => by
        obtain ⟨i, hi, he⟩ := List.mem_take_iff_getElem.1 hy
        have h3 := List.pairwise_iff_getElem.1 hs i n (by omega) hn' (by omega)
        rw [he] at h3
        omega)
      rw [h2]
      simp only [lookI, if_pos e, Option.none_or, Option.getD_some]
      simp [List.getD, List.getElem?_set, nowN_len, hj]
    · have h1 : (keyOf its[n]).toNat ≠ j := by omega
      simp only [lookI, if_neg e, Option.or_none]
      rw [← ih, List.getD, List.getElem?_set_ne h1]
      rfl
theorem nowN_all {ws cur : List Int} {m : Int → Option Int} {nd : List Pr} {its : List (List Int)} (h : ViewOK ws cur m nd its) : nowN ws its its.length = cur := by
  apply List.ext_getElem?
  intro j
  by_cases hj : j < ws.length
  · have h1 := nowN_get h.sorted h.keys hj its.length (Nat.le_refl _)
    rw [List.take_length] at h1
    have h2 := h.cur j hj
    rw [← h2] at h1
    have l1 : j < (nowN ws its its.length).length := by rw [nowN_len]; exact hj
    have l2 : j < cur.length := by rw [h.len]; exact hj
    simp only [List.getD, List.getElem?_eq_getElem l1, List.getElem?_eq_getElem l2, Option.getD_some] at h1
    rw [List.getElem?_eq_getElem l1, List.getElem?_eq_getElem l2, h1]
  · rw [List.getElem?_eq_none (by rw [nowN_len]; omega), List.getElem?_eq_none (by rw [h.len]; omega)]
theorem prs_get {its : List (List Int)} {n : Nat} (h : n < its.length) : (its.map prOf).getD n ⟨0, 0⟩ = prOf (its.getD n []) := by
  simp [List.getD, h]
theorem pr_in {ws cur : List Int} {m : Int → Option Int} {nd : List Pr} {its : List (List Int)} (h : ViewOK ws cur m nd its) {n : Nat} (hn : n < its.length) : 0 ≤ (prOf (its.getD n [])).Addr ∧ (prOf (its.getD n [])).Addr < (ws.length : Int) := by
  have hg : its.getD n [] = its[n] := by simp [List.getD, List.getElem?_eq_getElem hn]
  rw [hg]
  exact h.keys _ (List.getElem_mem hn)
end Go.Rx
end

section
namespace Go.Rx
open Go.Proofs
def chainT : List Nat → PT → PT
  | [], t => t
  | i :: r, t => .op i (chainT r t)
theorem Req_all {e b c : Bool} {A : Prop} (he : e = true) (hb : b = true) (h : Req c A) : Req (e && (b && c)) A := by
  subst he; subst hb; exact h
def rdS : Spec := ⟨fun args H K => match args, H with
  | [.ptr 0 0, .ext (.int .i64 a)], [.pk 0 [ws, cur] xs [.row 1], .row 0 l true] => ws = l ∧ xs.length ≤ 2 ∧ Req (inR a ws.length) (K (vi (rd cur a)) [.pk 0 [ws, cur] xs [.row 1], .row 0 l true])
  | _, _ => False, false⟩
def wrS : Spec := ⟨fun args H K => match args, H with
  | [.ptr 0 0, .ext (.int .i64 a), .ext (.int .i64 x)], [.pk 0 [ws, cur] xs [.row 1], .row 0 l true] => ws = l ∧ xs.length ≤ 2 ∧ Req (inR a ws.length) (K (.tup []) [.pk 0 [ws, wr cur a x] xs [.row 1], .row 0 l true])
  | _, _ => False, false⟩
theorem rd_ok : SpecOK Tryz.prog elTT 63 rdS := spec_mono (fun args H K h => by
  unfold rdS at h
  simp only at h
  split at h
  · obtain ⟨h1, h2, h3⟩ := h
    subst h1
    unfold readS
    simp only
    exact Req_all (eqL_self _) (Nat.ble_eq_true_of_le h2) h3
  · exact h.elim) read_ok
theorem wr_ok : SpecOK Tryz.prog elTT 96 wrS := spec_mono (fun args H K h => by
  unfold wrS at h
  simp only at h
  split at h
  · obtain ⟨h1, h2, h3⟩ := h
    subst h1
    unfold writeS
    simp only
    exact Req_all (eqL_self _) (Nat.ble_eq_true_of_le h2) h3
  · exact h.elim) write_ok
end Go.Rx
end

section
namespace Go.Proofs
open Go.RowKit Go.Shelf
def halves (u : Int) : Nat → Int
  | 0 => u
  | k + 1 => IntKind.wrap .u64 (Int.tdiv (halves u k) 2)
def doubles (u : Int) : Nat → Int
  | 0 => u
  | k + 1 => IntKind.wrap .u64 (doubles u k * 2)
end Go.Proofs
end

section
namespace Go.Rx
open Go.Proofs
set_option maxRecDepth 100000
noncomputable def ybs (w : Int) (i : Int) : Option (Int) := bif decide (i ≤ 64) then some (Int.tmod (halves (IntKind.wrap .u64 w) i.toNat) 2) else none
noncomputable def y5p (i : Int) : Option (Int) := bif decide (i ≤ 64) then some (doubles 1 i.toNat) else none
end Go.Rx
end

noncomputable section
namespace Go.Rx
open Go.Proofs
set_option maxRecDepth 100000
set_option maxHeartbeats 4000000
def y5h (iv : Int) : Option Bool :=
  (bif (decide (iv ≥ 0)) then some (decide (iv < 32)) else some false)
def y3y (w iv : Int) : Option Bool :=
  ((y5h iv).bind fun y0 => (bif y0 then ((ybs w iv).bind fun y1 => some (y1 == 1)) else some false))
def y4n (w iv : Int) : Option Int :=
  ((y5h iv).bind fun y0 => (bif (!y0) then some w else ((y3y w iv).bind fun y1 => (bif y1 then some w else ((y5p iv).bind fun y2 => some (IntKind.i64.wrap (IntKind.u64.wrap (IntKind.u64.wrap w + y2))))))))
def y6l (w iv : Int) : Option Int :=
  ((y3y w iv).bind fun y0 => (bif (!y0) then some w else ((y5p iv).bind fun y1 => some (IntKind.i64.wrap (IntKind.u64.wrap (IntKind.u64.wrap w - y1))))))
def y5n (w n iv : Int) (w2 : List Int) : Option ((Int × (List Int)) ⊕ (List Int)) :=
  (bif (decide (iv < 32)) then (bif (decide (iv < n)) then ((y3y w iv).bind fun y0 => (bif y0 then (bif (decide (w2.length + 1 ≤ 1048576)) then some (.inl ((IntKind.i64.wrap (iv + 1)), (w2 ++ [iv]))) else none) else some (.inl ((IntKind.i64.wrap (iv + 1)), w2)))) else some (.inr w2)) else some (.inr w2))
def ybk (w n : Int) (s : Int × (List Int)) : Option (List Int) :=
  loopO (fun s => y5n w n s.1 s.2) s
def y86 (w n : Int) : Option (List Int) :=
  (ybk w n (0, ([])))
def y99 (w n : Int) : Option Int :=
  ((y86 w n).bind fun y0 => some (↑y0.length : Int))
def y5d (w n iv : Int) : Option (Int ⊕ Int) :=
  (bif (decide (iv < 32)) then (bif (decide (iv < n)) then ((y3y w iv).bind fun y0 => (bif (!y0) then some (.inr iv) else some (.inl (IntKind.i64.wrap (iv + 1))))) else some (.inr (-1))) else some (.inr (-1)))
def yef (w n s : Int) : Option Int :=
  loopO (fun s => y5d w n s) s
def y55 (w n : Int) : Option Int :=
  (yef w n 0)
def yil (c n iv : Int) : Option ((Int × Int) ⊕ Int) :=
  (bif (decide (iv < c)) then some (.inl ((IntKind.i64.wrap (n * 2)), (IntKind.i64.wrap (iv + 1)))) else some (.inr n))
def yhh (c : Int) (s : Int × Int) : Option Int :=
  loopO (fun s => yil c s.1 s.2) s
def y3f (c : Int) : Option Int :=
  (bif (decide (c < 0)) then some 0 else (bif (decide (c > 4)) then some 0 else (yhh c (1, 0))))
def y3i (c : Int) : Option Int :=
  (bif (decide (c < 0)) then some 0 else (bif (decide (c > 4)) then some 0 else ((y3f c).bind fun y0 => (bif (!y0 == 0) then some (IntKind.i64.wrap (Int.tdiv 32 y0)) else none))))
attribute [local irreducible] Loop ex exF contK roundK retK at_ bodyOf mkEnv
end Go.Rx
end

noncomputable section
namespace Go.Rx
open Go.Proofs
set_option maxRecDepth 100000
set_option maxHeartbeats 4000000
abbrev Y4 := Int → Option Int
def y5s (m_ : Y4) (args : List V) (H : Heap) (K : V → Heap → Prop) : Prop :=
  aC args fun a0 r => aN r <| aInt a0 fun iv => aN H <| So (m_ iv) fun x => K (vi x) []
def y5o (m_ : Y4) : Spec := ⟨y5s m_, (true : Bool)⟩
abbrev Y46 := Int → Int → Option Bool
def y8a (m_ : Y46) (args : List V) (H : Heap) (K : V → Heap → Prop) : Prop :=
  aC args fun a0 r => aC r fun a1 r => aN r <| aInt a0 fun w => aInt a1 fun iv => aN H <| So (m_ w iv) fun x => K (vb x) []
def ybi (m_ : Y46) : Spec := ⟨y8a m_, (true : Bool)⟩
abbrev Y14 := Int → Int → Option Int
def y7g (m_ : Y14) (args : List V) (H : Heap) (K : V → Heap → Prop) : Prop :=
  aC args fun a0 r => aC r fun a1 r => aN r <| aInt a0 fun w => aInt a1 fun iv => aN H <| So (m_ w iv) fun x => K (vi x) []
def yc9 (m_ : Y14) : Spec := ⟨y7g m_, (true : Bool)⟩
def y5y (m_ : Y14) (args : List V) (H : Heap) (K : V → Heap → Prop) : Prop :=
  aC args fun a0 r => aC r fun a1 r => aN r <| aInt a0 fun w => aInt a1 fun iv => aN H <| So (m_ w iv) fun x => K (vi x) []
def ydf (m_ : Y14) : Spec := ⟨y5y m_, (true : Bool)⟩
def y9y  : Cfg := { cfgB with
  sigs := sigN }
def yb4 (y0e : Y4) : Cfg := { cfgB with
  sigs := (sigC 61 (y5o y0e) sigN) }
def yd2 (y0e : Y4) : Cfg := { cfgB with
  sigs := (sigC 61 (y5o y0e) sigN) }
def ycn (y0e : Y4) : Cfg := { cfgB with
  sigs := (sigC 61 (y5o y0e) sigN) }
theorem yfb (iv : Int) (K : V → Heap → Prop) : (exF y9y Tryz.f61 [vi iv] [] K) = (
    br (decide (iv < 0)) (K (vi 0) []) (br (decide (iv ≥ 32)) (K (vi 0) []) (Req (decide (0 ≤ iv)) (K (vi (IntKind.i64.wrap (1 * 2 ^ Min.min (Int.toNat iv) (IntKind.bits IntKind.i64)))) [])))) := by kernel_rfl
theorem yhx (y0e : Y4) (w iv : Int) (K : V → Heap → Prop) : (exF (yb4 y0e) Tryz.f27 [vi w, vi iv] [] K) = (
    So (y0e iv) (fun (y0 : Int) => (K (vb (Go.bits Go.BinOp.and IntKind.i64 w y0 != 0)) []))) := by kernel_rfl
theorem yfu (y0e : Y4) (w iv : Int) (K : V → Heap → Prop) : (exF (yd2 y0e) Tryz.f57 [vi w, vi iv] [] K) = (
    So (y0e iv) (fun (y0 : Int) => (K (vi (Go.bits Go.BinOp.or IntKind.i64 w y0)) []))) := by kernel_rfl
theorem ygs (y0e : Y4) (w iv : Int) (K : V → Heap → Prop) : (exF (ycn y0e) Tryz.f65 [vi w, vi iv] [] K) = (
    So (y0e iv) (fun (y0 : Int) => (K (vi (Go.bits Go.BinOp.andNot IntKind.i64 w y0)) []))) := by kernel_rfl
def y0e (iv : Int) : Option Int :=
  (bif (decide (iv < 0)) then some 0 else (bif (decide (iv ≥ 32)) then some 0 else (bif (decide (0 ≤ iv)) then some (IntKind.i64.wrap (1 * 2 ^ Min.min (Int.toNat iv) (IntKind.bits IntKind.i64))) else none)))
def y1t (w iv : Int) : Option Bool :=
  ((y0e iv).bind fun y0 => some (Go.bits Go.BinOp.and IntKind.i64 w y0 != 0))
def y1v (w iv : Int) : Option Int :=
  ((y0e iv).bind fun y0 => some (Go.bits Go.BinOp.or IntKind.i64 w y0))
def y1y (w iv : Int) : Option Int :=
  ((y0e iv).bind fun y0 => some (Go.bits Go.BinOp.andNot IntKind.i64 w y0))
attribute [local irreducible] Loop ex exF contK roundK retK at_ bodyOf mkEnv
theorem y5x : SpecOK Tryz.prog elTT 61 (y5o y0e) := by
  refine spec_of_exF (cfg := y9y) (yg rfl rfl rfl) yk (fn := Tryz.f61) (by kernel_rfl) (by kernel_rfl) (by kernel_rfl) ?_
  intro args H K h
  change y5s y0e args H K at h
  unfold y5s at h
  repeat first | (obtain ⟨_, h⟩ := h) | replace h := Des.el h
  subst_vars
  refine Eq.mpr (yfb _ K) ?_
  unfold y0e at h
  revert h
  exact br_So (fun h => h) (br_So (fun h => h) (req_So (fun h => h)))
theorem yit : SpecOK Tryz.prog elTT 27 (ybi y1t) := by
  refine spec_of_exF (cfg := (yb4 y0e)) (yg rfl rfl rfl) (yd y5x yk) (fn := Tryz.f27) (by kernel_rfl) (by kernel_rfl) (by kernel_rfl) ?_
  intro args H K h
  change y8a y1t args H K at h
  unfold y8a at h
  repeat first | (obtain ⟨_, h⟩ := h) | replace h := Des.el h
  subst_vars
  refine Eq.mpr (yhx y0e _ _ K) ?_
  unfold y1t at h
  revert h
  exact bind_So fun y0 => fun h => h
theorem yhi : SpecOK Tryz.prog elTT 57 (yc9 y1v) := by
  refine spec_of_exF (cfg := (yd2 y0e)) (yg rfl rfl rfl) (yd y5x yk) (fn := Tryz.f57) (by kernel_rfl) (by kernel_rfl) (by kernel_rfl) ?_
  intro args H K h
  change y7g y1v args H K at h
  unfold y7g at h
  repeat first | (obtain ⟨_, h⟩ := h) | replace h := Des.el h
  subst_vars
  refine Eq.mpr (yfu y0e _ _ K) ?_
  unfold y1v at h
  revert h
  exact bind_So fun y0 => fun h => h
theorem ygh : SpecOK Tryz.prog elTT 65 (ydf y1y) := by
  refine spec_of_exF (cfg := (ycn y0e)) (yg rfl rfl rfl) (yd y5x yk) (fn := Tryz.f65) (by kernel_rfl) (by kernel_rfl) (by kernel_rfl) ?_
  intro args H K h
  change y5y y1y args H K at h
  unfold y5y at h
  repeat first | (obtain ⟨_, h⟩ := h) | replace h := Des.el h
  subst_vars
  refine Eq.mpr (ygs y0e _ _ K) ?_
  unfold y1y at h
  revert h
  exact bind_So fun y0 => fun h => h
end Go.Rx
end
