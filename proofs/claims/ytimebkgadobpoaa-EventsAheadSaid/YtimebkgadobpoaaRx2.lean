/- Operations that only tell a value tell it in every world that fits. -/
import Derived.Test.YtimebkgadobpoaaRx1
import Derived.Maps.RangeRun
namespace Go.Rx

structure CfgOK (cfg : Cfg) : Prop where
  small : ∀ (t tg : Nat), cfg.tagOf t = some tg → elM tg ≤ 4096
  tags : ∀ (t tg : Nat), cfg.tagOf t = some tg → cfg.P.underlying t = some (.slice (cfg.elT tg)) ∧ ∃ i z, cfg.P.info? (cfg.elT tg) = some i ∧ i.zero = some z ∧ z.cells = (elEnc tg (elD tg)).toArray ∧ i.size = elM tg ∧ i.bytes ≤ 65536
  mixed : cfg.P.follows .mixedOrders = true

theorem Cfg.ty_spec {cfg : Cfg} {t : TypeId} {i : TyI} (h : cfg.ty t = some i) :
    ∃ inf z, cfg.P.info? t = some inf ∧ cfg.P.underlying t = some i.desc ∧ inf.zero = some z ∧ i.size = inf.size ∧ i.zero = z.cells.toList := by
  unfold Cfg.ty at h
  split at h
  · rename_i inf d h1 h2
    split at h
    · rename_i z hz
      injection h with h
      subst h
      exact ⟨inf, z, h1, h2, hz, rfl, rfl⟩
    · cases h
  · cases h

theorem REnv.ev {ρ : List Value} {env : Env} {a : Act} (hE : ∀ t, Rel ρ (env t) (a.tmps.getD t undef)) (x : Operand) : Rel ρ (ev env x) (a.eval x) := by
  cases x with
  | tmp t => exact hE t
  | const v => exact .inr rfl
  | global g => exact .inr rfl
  | func f => exact .inr (by simp [Rx.ev, V.den, denL, Act.eval])

theorem Rel.den {ρ : List Value} {v : V} {x : Value} (h : Rel ρ v x) (hv : v ≠ .junk) : v.den ρ = some x := h.resolve_left hv

theorem Req_elim {b : Bool} {A : Prop} (h : Req b A) : b = true ∧ A := by
  cases b with
  | true => exact ⟨rfl, h⟩
  | false => exact h.elim

theorem cond_elim {b : Bool} {A : Prop} (h : bif b then A else False) : b = true ∧ A := by
  cases b with
  | true => exact ⟨rfl, h⟩
  | false => exact h.elim

theorem cond_elim' {b : Bool} {A : Prop} (h : bif b then False else A) : b = false ∧ A := by
  cases b with
  | true => exact h.elim
  | false => exact ⟨rfl, h⟩

/-- A way to tell a value: in all worlds that fit. -/
def Told (k : V → Prop) (ρ : List Value) (S : World → Prop) (P : Program) (m : Sem Value) : Prop :=
  ∃ v x, k v ∧ Rel ρ v x ∧ ∀ w, S w → m.run P w = .ok x w

theorem intOp_sound {P : Program} {op : BinOp} {k : IntKind} {t : TypeId} {a b : Int} {K : Value → Prop} (h : intOp op k a b K) : ∃ v, K v ∧ ∀ w, (binOp op t (.int k a) (.int k b)).run P w = .ok v w := by
  cases op <;> simp only [intOp] at h <;> first
    | exact h.elim
    | exact ⟨_, h, fun w => by simp [binOp, Op.intArith, Op.intCmp, intBits_and, intBits_or, intBits_xor, intBits_andNot]⟩
    | (obtain ⟨hb, h⟩ := Req_elim h
       have hb' : ¬ b = 0 := by simpa using hb
       exact ⟨_, h, fun w => by simp [binOp, Op.intDiv, hb']⟩)
    | (obtain ⟨hb, h⟩ := Req_elim h
       have hb' : 0 ≤ b := by simpa using hb
       exact ⟨_, h, fun w => by simp [binOp, shift_shl_any k k a b hb', shift_shr_any k k a b hb']⟩)

theorem eqGuard_int {P : Program} {op : BinOp} {t : TypeId} {x y : Operand} {k k' : IntKind} {a b : Int} (w : World) : (eqGuard op t x y (.int k a) (.int k' b)).run P w = .ok () w := by
  unfold eqGuard
  split <;> simp

theorem eqGuard_bool {P : Program} {op : BinOp} {t : TypeId} {x y : Operand} {a b : Bool} (w : World) : (eqGuard op t x y (.bool a) (.bool b)).run P w = .ok () w := by
  unfold eqGuard
  split <;> simp

variable {cfg : Cfg} {lk : Option (Blk → Bool)} {HR : Heap} {ρ : List Value} {F : Nat → List Nat} {k : V → Prop}

theorem run_equalIn_bool {P : Program} {t : TypeId} (d : Nat) (h : P.underlying t = some .bool) (a b : Bool) (w : World) : (Op.equalIn (d + 1) t (.bool a) (.bool b)).run P w = .ok (a == b) w := by
  unfold Op.equalIn
  simp only [Sem.run_bind, run_underlying h, Result.andThen_ok, Sem.run_pure]

theorem run_equal_bool {P : Program} {t : TypeId} (h : P.underlying t = some .bool) (a b : Bool) (w : World) : (Op.equal t (.bool a) (.bool b)).run P w = .ok (a == b) w := by
  exact run_equalIn_bool 9999 h a b w

theorem run_eql_bool {P : Program} {t : TypeId} (h : P.underlying t = some .bool) (a b : Bool) (w : World) : (binOp .eql t (.bool a) (.bool b)).run P w = .ok (.bool (a == b)) w := by
  have e : binOp .eql t (.bool a) (.bool b) = (do pure (.bool (← Op.equal t (.bool a) (.bool b)))) := rfl
  rw [e, Sem.run_bind, run_equal_bool h]; rfl

theorem run_neq_bool {P : Program} {t : TypeId} (h : P.underlying t = some .bool) (a b : Bool) (w : World) : (binOp .neq t (.bool a) (.bool b)).run P w = .ok (.bool (!(a == b))) w := by
  have e : binOp .neq t (.bool a) (.bool b) = (do pure (.bool (!(← Op.equal t (.bool a) (.bool b))))) := rfl
  rw [e, Sem.run_bind, run_equal_bool h]; rfl

theorem den_ext {x : Value} {a : Value} (hx : Rel ρ (.ext x) a) : a = x := by
  have ha := hx.den (by simp)
  simp only [V.den, Option.some.injEq] at ha
  exact ha.symm

theorem run_isAgg {P : Program} {t : TypeId} {d : TypeDesc} (h : P.underlying t = some d) (w : World) : (isAgg t).run P w = .ok (isAggD d) w := by
  unfold isAgg
  simp only [Sem.run_bind, run_underlying h, Result.andThen_ok]
  cases d <;> rfl

theorem run_sizeOf' {P : Program} {t : TypeId} {i : TypeInfo} (h : P.info? t = some i) (w : World) : (sizeOf t).run P w = .ok i.size w := by
  simp [sizeOf, typeInfo, h]

theorem run_part' {P : Program} {t : TypeId} {d : TypeDesc} {i : TypeInfo} (hu : P.underlying t = some d) (hi : P.info? t = some i) (cs : List Value) (off : Nat) (w : World) :
    (isAggD d = true → (part t cs.toArray off).run P w = .ok (.agg ((cs.drop off).take i.size).toArray) w) ∧
    (isAggD d = false → ∀ v, cs[off]? = some v → (part t cs.toArray off).run P w = .ok v w) := by
  constructor
  · intro h
    unfold part
    simp only [Sem.run_bind, run_isAgg hu, Result.andThen_ok, h, if_true, run_sizeOf' hi, Sem.run_pure]
    congr 2
    apply Array.ext'
    simp [List.extract_eq_take_drop]
  · intro h v hv
    unfold part
    simp [Sem.run_bind, run_isAgg hu, Result.andThen_ok, h, hv]

theorem eqFsV_sound {xs ys : List V} {vs us : List Value} (hx : denL ρ xs = some vs) (hy : denL ρ ys = some us) {d : Nat} (w : World) : ∀ {fs : List Field} {r : Bool}, eqFsV cfg xs ys fs = some r →
    (Op.eqFields (d + 1) vs.toArray us.toArray fs).run cfg.P w = .ok r w
  | [], r, h => by simp only [eqFsV, Option.some.injEq] at h; subst h; simp [Op.eqFields]
  | f :: fs, r, h => by
    unfold eqFsV at h
    cases hn : (f.name == "_") with
    | true => rw [hn] at h; cases h
    | false =>
      rw [hn] at h
      simp only [cond_false] at h
      have hn' : f.name ≠ "_" := by simpa using hn
      have go : ∀ {desc : TypeDesc} {sz : Nat} {zero : List Value} {by_ : Nat} {a b : Value} {e r' : Bool}, cfg.ty f.type = some ⟨desc, sz, zero, by_⟩ → isAggD desc = false → xs[f.offset]? = some (.ext a) → ys[f.offset]? = some (.ext b) →
          eqFsV cfg xs ys fs = some r' → (∀ u, cfg.P.underlying f.type = some desc → (Op.equalIn (d + 1) f.type a b).run cfg.P u = .ok e u) → (Op.eqFields (d + 1) vs.toArray us.toArray (f :: fs)).run cfg.P w = .ok (e && r') w := by
        intro desc sz zero by_ a b e r' ht hd ha hb hr he
        obtain ⟨inf, z, i1, i2, i3, i4, i5⟩ := Cfg.ty_spec ht
        obtain ⟨x1, hx1, hx2⟩ := denL_get hx _ _ ha
        obtain ⟨y1, hy1, hy2⟩ := denL_get hy _ _ hb
        simp only [V.den, Option.some.injEq] at hx2 hy2
        subst hx2; subst hy2
        have ih := eqFsV_sound hx hy (d := d) w hr
        rw [Op.eqFields]
        simp only [if_pos hn', Sem.run_bind, (run_part' i2 i1 vs f.offset w).2 hd _ hx1, (run_part' i2 i1 us f.offset w).2 hd _ hy1, Result.andThen_ok, he w i2]
        cases e with
        | false => simp
        | true => simpa using ih
      split at h
      · rename_i kx a ky b r' e1 e2 e3 e4
        cases hk : decide (kx = ky) with
        | false => rw [hk] at h; cases h
        | true =>
          rw [hk] at h
          injection h with h; subst h
          have hk' : kx = ky := by simpa using hk
          subst hk'
          exact go e1 rfl e2 e3 e4 (fun u hu => run_equalIn_int u d f.type kx _ a b hu)
      · rename_i a b r' e1 e2 e3 e4
        injection h with h; subst h
        exact go e1 rfl e2 e3 e4 (fun u hu => run_equalIn_bool d hu a b u)
      · cases h

theorem binV_sound {op : BinOp} {t : TypeId} {x y : V} {a b : Value} (X Y : Operand) (h : binV cfg op t x y k) (hx : Rel ρ x a) (hy : Rel ρ y b) (S : World → Prop) :
    Told k ρ S cfg.P (do eqGuard op t X Y a b; binOp op t a b) := by
  unfold binV at h
  split at h
  · rename_i kx a' ky b'
    have h1 := cond_elim h
    have hk : kx = ky := by simpa using h1.1
    have ha := den_ext hx; have hb := den_ext hy
    obtain ⟨v, hv, hr⟩ := intOp_sound (P := cfg.P) (t := t) h1.2
    refine ⟨_, _, hv, .inr rfl, fun w _ => ?_⟩
    rw [ha, hb, ← hk]
    simp only [Sem.run_bind, eqGuard_int, Result.andThen_ok, hr w]
  · rename_i a' b'
    have ha := den_ext hx; have hb := den_ext hy
    split at h
    · rename_i hty
      obtain ⟨inf, z, h1, h2, h3, h4, h5⟩ := Cfg.ty_spec hty
      refine ⟨_, _, h, .inr rfl, fun w _ => ?_⟩
      rw [ha, hb]
      simp only [Sem.run_bind, eqGuard_bool, Result.andThen_ok, run_eql_bool h2]
    · rename_i hty
      obtain ⟨inf, z, h1, h2, h3, h4, h5⟩ := Cfg.ty_spec hty
      refine ⟨_, _, h, .inr rfl, fun w _ => ?_⟩
      rw [ha, hb]
      simp only [Sem.run_bind, eqGuard_bool, Result.andThen_ok, run_neq_bool h2]
    · exact h.elim
  · rename_i xs ys
    have ha := hx.den (by simp)
    have hb := hy.den (by simp)
    simp only [V.den] at ha hb
    split at ha
    · rename_i vs hvs
      injection ha with ha; subst ha
      split at hb
      · rename_i us hus
        injection hb with hb; subst hb
        split at h
        · rename_i fs _ _ _ hty
          obtain ⟨inf, z, h1, h2, h3, h4, h5⟩ := Cfg.ty_spec hty
          have hq := cond_elim h
          have hc := hq.1
          simp only [Bool.and_eq_true, Bool.not_eq_true'] at hc
          have hh := hq.2
          have hfo : cfg.P.fieldsOf t = fs := by simp [Program.fieldsOf, h2]
          split at hh
          · rename_i r hr
            have hrun : ∀ w, (Op.equalIn 10000 t (.agg vs.toArray) (.agg us.toArray)).run cfg.P w = .ok r w := fun w => by
              rw [run_equalIn_struct (P := cfg.P) w 9999 t _ _ (by rw [hfo]; exact h2) hc.1, hfo]
              exact eqFsV_sound hvs hus (d := 9998) w hr
            split at hh
            · refine ⟨_, _, hh, .inr rfl, fun w _ => ?_⟩
              simp only [Sem.run_bind, run_eqGuard_agg (P := cfg.P) w .eql t X Y _ _ hc.2, Result.andThen_ok, run_eql_struct (P := cfg.P) w t, hrun w]
            · refine ⟨_, _, hh, .inr rfl, fun w _ => ?_⟩
              simp only [Sem.run_bind, run_eqGuard_agg (P := cfg.P) w .neq t X Y _ _ hc.2, Result.andThen_ok, run_neq_struct (P := cfg.P) w t, hrun w]
            · exact hh.elim
          · exact hh.elim
        · exact h.elim
      · cases hb
    · cases ha
  · exact h.elim

theorem unV_sound {op : UnOp} {x : V} {a : Value} (h : unV op x k) (hx : Rel ρ x a) (S : World → Prop) : Told k ρ S cfg.P (Op.unary op a) := by
  unfold unV at h
  split at h
  · have ha := hx.den (by simp)
    simp only [V.den, Option.some.injEq] at ha
    subst ha
    exact ⟨_, _, h, .inr rfl, fun w _ => by simp [Op.unary]⟩
  · have ha := hx.den (by simp)
    simp only [V.den, Option.some.injEq] at ha
    subst ha
    exact ⟨_, _, h, .inr rfl, fun w _ => by simp [Op.unary, Op.intArith]⟩
  · exact h.elim

theorem convV_sound {s t : TypeId} {x : V} {a : Value} (h : convV cfg s t x k) (hx : Rel ρ x a) (S : World → Prop) : Told k ρ S cfg.P (convert s t a) := by
  unfold convV at h
  split at h
  · have ha := hx.den (by simp)
    simp only [V.den, Option.some.injEq] at ha
    subst ha
    split at h
    · rename_i hs ht
      obtain ⟨inf, z, h1, h2, h3, h4, h5⟩ := Cfg.ty_spec hs
      obtain ⟨inf', z', h1', h2', h3', h4', h5'⟩ := Cfg.ty_spec ht
      exact ⟨_, _, h, .inr rfl, fun w _ => by simp [convert, run_underlying h2, run_underlying h2', Conv.intToInt]⟩
    · exact h.elim
  · exact h.elim

theorem fieldOff_spec {s : TypeId} {f off : Nat} {T : TypeId} (h : fieldOff cfg s f = some (off, T)) :
    ∃ fs fd, cfg.P.underlying s = some (.struct fs) ∧ fs[f]? = some fd ∧ fd.offset = off ∧ fd.type = T := by
  unfold fieldOff at h
  split at h
  · rename_i fs _ _ _ hty
    obtain ⟨inf, z, h1, h2, h3, h4, h5⟩ := Cfg.ty_spec hty
    split at h
    · rename_i fd hf
      injection h with h
      injection h with ha hb
      exact ⟨fs, fd, h2, by rw [← Array.getElem?_toList]; exact hf, ha, hb⟩
    · cases h
  · cases h

theorem add_add (a : Addr) (x y : Nat) : (a.add x).add y = a.add (x + y) := by
  unfold Addr.add
  by_cases hx : x = 0
  · subst hx; simp
  · by_cases hy : y = 0
    · subst hy; simp [hx]
    · have : ¬ (x + y = 0) := by omega
      simp [hx, hy, Nat.add_assoc]

theorem add_lit0 (b o n : Nat) : (⟨b, o, none⟩ : Addr).add n = ⟨b, o + n, none⟩ := by
  unfold Addr.add; split <;> simp_all

theorem den_ptr {i o : Nat} {a : Value} (hx : Rel ρ (.ptr i o) a) : ∃ b, ρ[i]? = some (.pointer (some ⟨b, 0, none⟩)) ∧ a = .pointer (some ⟨b, o, none⟩) := by
  have ha := hx.den (by simp)
  simp only [V.den] at ha
  split at ha
  · rename_i b hb; injection ha with ha; exact ⟨b, hb, ha.symm⟩
  · cases ha

theorem den_eptr {i lo m j : Nat} {n : Int} {a : Value} (hx : Rel ρ (.eptr i n lo m j) a) :
    ∃ ad len cap, ρ[i]? = some (.slice (some ad) len cap) ∧ 0 ≤ n ∧ a = .pointer (some (ad.add ((offs n lo).toNat * m + j))) := by
  have ha := hx.den (by simp)
  simp only [V.den] at ha
  split at ha
  · rename_i ad len cap hb
    cases hk : decide (0 ≤ n) with
    | false => rw [hk] at ha; cases ha
    | true => rw [hk] at ha; injection ha with ha; exact ⟨ad, len, cap, hb, by simpa using hk, ha.symm⟩
  · cases ha

theorem den_sub {i lo n m : Nat} {a : Value} (hx : Rel ρ (.sub i lo n m) a) :
    ∃ ad len cap, ρ[i]? = some (.slice ad len cap) ∧ a = .slice (if cap = lo then ad else ad.map (·.add (lo * m))) n (cap - lo) := by
  have ha := hx.den (by simp)
  simp only [V.den] at ha
  split at ha
  · rename_i ad len cap hb; injection ha with ha; exact ⟨ad, len, cap, hb, ha.symm⟩
  · cases ha

theorem den_asl {i o n c : Nat} {a : Value} (hx : Rel ρ (.asl i o n c) a) : ∃ b, ρ[i]? = some (.pointer (some ⟨b, 0, none⟩)) ∧ a = .slice (some ⟨b, o, none⟩) n c := by
  have ha := hx.den (by simp)
  simp only [V.den] at ha
  split at ha
  · rename_i b hb; injection ha with ha; exact ⟨b, hb, ha.symm⟩
  · cases ha

theorem den_mp {i : Nat} {a : Value} (hx : Rel ρ (.mp i) a) : ∃ b, ρ[i]? = some (.map (some b)) ∧ a = .map (some b) := by
  have ha := hx.den (by simp)
  simp only [V.den] at ha
  split at ha
  · rename_i b hb; injection ha with ha; exact ⟨b, hb, ha.symm⟩
  · cases ha

theorem mk_mp {i b : Nat} (h : ρ[i]? = some (.map (some b))) : Rel ρ (.mp i) (.map (some b)) := .inr (by simp only [V.den, h])
theorem mk_asl {i o n c b : Nat} (h : ρ[i]? = some (.pointer (some ⟨b, 0, none⟩))) : Rel ρ (.asl i o n c) (.slice (some ⟨b, o, none⟩) n c) := .inr (by simp only [V.den, h])
theorem mk_ptr {i o b : Nat} (h : ρ[i]? = some (.pointer (some ⟨b, 0, none⟩))) : Rel ρ (.ptr i o) (.pointer (some ⟨b, o, none⟩)) := .inr (by simp only [V.den, h])
theorem mk_eptr {i lo m j len cap : Nat} {n : Int} {ad : Addr} (h : ρ[i]? = some (.slice (some ad) len cap)) (hn : 0 ≤ n) : Rel ρ (.eptr i n lo m j) (.pointer (some (ad.add ((offs n lo).toNat * m + j)))) := .inr (by simp only [V.den, h, hn, decide_true, cond_true])
theorem mk_sub {i lo n m len cap : Nat} {ad : Option Addr} (h : ρ[i]? = some (.slice ad len cap)) : Rel ρ (.sub i lo n m) (.slice (if cap = lo then ad else ad.map (·.add (lo * m))) n (cap - lo)) := .inr (by simp only [V.den, h])

theorem fieldAddrV_sound {s : TypeId} {f : Nat} {x : V} {a : Value} (h : fieldAddrV cfg s x f k) (hx : Rel ρ x a) (S : World → Prop) : Told k ρ S cfg.P (Instr.fieldAt s a f) := by
  unfold fieldAddrV at h
  split at h
  · exact h.elim
  · rename_i off T hf
    obtain ⟨fs, fd, h1, h2, rfl, rfl⟩ := fieldOff_spec hf
    split at h
    · exact h.elim
    · rename_i i hi
      obtain ⟨inf, z, i1, i2, i3, i4, i5⟩ := Cfg.ty_spec hi
      have hh := cond_elim' h
      have hz : inf.size ≠ 0 := by rw [← i4]; intro e; have := hh.1; rw [e] at this; simp at this
      have h := hh.2
      split at h
      · obtain ⟨b, hb, rfl⟩ := den_ptr hx
        refine ⟨_, _, h, mk_ptr hb, fun w _ => ?_⟩
        simp [Instr.fieldAt, run_underlying h1, h2, Instr.sureAddr, fieldPlace, sizeOf, typeInfo, i1, hz, add_lit0]
      · obtain ⟨ad, len, cap, hb, hn, rfl⟩ := den_eptr hx
        refine ⟨_, _, h, mk_eptr hb hn, fun w _ => ?_⟩
        simp [Instr.fieldAt, run_underlying h1, h2, Instr.sureAddr, fieldPlace, sizeOf, typeInfo, i1, hz, add_add, Nat.add_assoc]
      · exact h.elim

theorem row_val {t : Nat} {l : List (El t)} {ro : Bool} {w : World} {x : Value} {G : List Nat} (h : (Blk.row t l ro).holds cfg.elT ρ w x G) :
    ∃ a cap, x = .slice a l.length cap ∧ l.length ≤ cap ∧ cap ≤ maxLen ∧ (a = none → cap = 0) ∧
      ∀ j y, (flat t l)[j]? = some y → ∃ ad, a = some ad ∧ ad.block ∈ G ∧ w.cell? (ad.add j) = some y := by
  cases ro with
  | true => obtain ⟨a, cap, h1, h2, h3, h4, h5⟩ := h; exact ⟨a, cap, h1, h2, h3, h4, h5⟩
  | false =>
    obtain ⟨h1, h2⟩ := h
    rcases h1.2 with ⟨rfl, hn⟩ | ⟨g, cap, cur, rfl, _, hh, hc, hm, hs, ht⟩
    · have : l = [] := List.eq_nil_of_length_eq_zero hn
      subst this
      exact ⟨none, 0, rfl, by simp, by simp, fun _ => rfl, fun j y hy => by simp [flat] at hy⟩
    · refine ⟨_, cap, rfl, hc, hm, (fun h => by cases h), fun j y hy => ⟨_, rfl, ?_, h1.cells (g := g) rfl j y hy⟩⟩
      simp [h2, Value.ownBlock]

theorem inR_spec {n : Int} {len : Nat} (h : inR n len = true) : 0 ≤ n ∧ n < (len : Int) := by simpa [inR] using h

theorem den_row {i : Nat} {a : Value} (hx : Rel ρ (.row i) a) : ρ[i]? = some a := by
  have ha := hx.den (by simp)
  simp only [V.den] at ha
  split at ha
  · rename_i h; injection ha with ha; rw [h, ha]
  · cases ha

/-- What is known of slices whatever becomes of memory. -/
def RowShape (ρ : List Value) (H : Heap) : Prop :=
  ∀ (i t : Nat) (l : List (El t)) (ro : Bool), H[i]? = some (.row t l ro) → ∃ a cap, ρ[i]? = some (.slice a l.length cap) ∧ l.length ≤ cap ∧ cap ≤ maxLen ∧ (a = none → cap = 0)

theorem Sat.shape {elT : ET} {H : Heap} {w : World} (h : Sat elT ρ F H w) : RowShape ρ H := by
  intro i t l ro hb
  have hi : i < ρ.length := by rw [h.len]; exact (List.getElem?_eq_some_iff.1 hb).1
  obtain ⟨a, cap, e, h1, h2, h3, _⟩ := row_val (cfg := ⟨default, fun _ => none, elT, fun _ => none, fun _ => none, fun _ => none, fun _ => none, fun _ => none, fun _ => false, fun _ => none⟩) (h.each i _ _ hb (List.getElem?_eq_getElem hi))
  exact ⟨a, cap, by rw [List.getElem?_eq_getElem hi, e], h1, h2, h3⟩

theorem RowShape.le {ρ' : List Value} {H : Heap} (h : RowShape ρ H) (hl : Le ρ ρ') : RowShape ρ' H := fun i t l ro hb =>
  let ⟨a, cap, h1, h2⟩ := h i t l ro hb; ⟨a, cap, hl i _ h1, h2⟩

theorem indexAddrV_sound (ok : CfgOK cfg) {t : TypeId} {x ix : V} {a b : Value} (h : indexAddrV cfg HR t x ix k) (hx : Rel ρ x a) (hi : Rel ρ ix b)
    (hS : RowShape ρ HR) (S : World → Prop) : Told k ρ S cfg.P (Instr.indexAt t a b) := by
  unfold indexAddrV at h
  split at h
  · rename_i kd n
    have hb := den_ext hi
    subst hb
    split at h
    · rename_i i
      split at h
      · rename_i tg l ro hH
        split at h
        · rename_i tg' ht
          have hc := cond_elim h
          obtain rfl := Nat.eq_of_beq_eq_true hc.1
          have hr := Req_elim hc.2
          obtain ⟨h0, h1⟩ := inR_spec hr.1
          obtain ⟨u1, inf, z, u2, u3, u4, u5, u6⟩ := ok.tags t tg ht
          have ha := den_row hx
          obtain ⟨ad, cap, hx1, hcap, hcm, hnone⟩ := hS i _ _ _ hH
          rw [ha] at hx1; injection hx1 with hx1; subst hx1
          cases ad with
          | none => have := hnone rfl; omega
          | some ad =>
            refine ⟨_, _, hr.2, mk_eptr ha h0, fun w hw => ?_⟩
            simp [Instr.indexAt, run_underlying u1, asIntOf, h0, h1, sizeOf, typeInfo, u2, u5, offs]
        · exact h.elim
      · exact h.elim
    · rename_i i lo len m
      split at h
      · rename_i tg l ro hH
        split at h
        · rename_i tg' ht
          have hc := cond_elim h
          have hc1 := hc.1
          simp only [Bool.and_eq_true] at hc1
          obtain ⟨hc1, hc2⟩ := hc1
          obtain rfl := Nat.eq_of_beq_eq_true hc1
          obtain rfl := Nat.eq_of_beq_eq_true hc2
          have hq := Req_elim hc.2
          have hq1 : lo + len ≤ l.length := by simpa using hq.1
          have hr := Req_elim hq.2
          obtain ⟨h0, h1⟩ := inR_spec hr.1
          obtain ⟨u1, inf, z, u2, u3, u4, u5, u6⟩ := ok.tags t tg ht
          obtain ⟨ad, len', cap, hb, rfl⟩ := den_sub hx
          obtain ⟨ad', cap', hx1, hcap, hcm, hnone⟩ := hS i _ _ _ hH
          rw [hb] at hx1; injection hx1 with hx1
          injection hx1 with e1 e2 e3
          subst e1; subst e2; subst e3
          cases ad with
          | none => have := hnone rfl; omega
          | some ad =>
            have hne : ¬ cap = lo := by omega
            refine ⟨_, _, hr.2, mk_eptr hb h0, fun w hw => ?_⟩
            have e : (offs n lo).toNat * elM tg + 0 = lo * elM tg + n.toNat * elM tg := by
              rw [Nat.add_zero, ← Nat.add_mul]
              congr 1
              cases lo <;> simp only [offs] <;> omega
            rw [e]
            simp [Instr.indexAt, run_underlying u1, asIntOf, h0, h1, sizeOf, typeInfo, u2, u5, hne, add_add]
        · exact h.elim
      · exact h.elim
    · rename_i i o
      split at h
      · rename_i len E _ _ _ ht
        split at h
        · rename_i sz _ _ hE
          have hr := Req_elim h
          obtain ⟨h0, h1⟩ := inR_spec hr.1
          obtain ⟨inf, z, i1, i2, i3, i4, i5⟩ := Cfg.ty_spec ht
          obtain ⟨inf', z', j1, j2, j3, j4, j5⟩ := Cfg.ty_spec hE
          obtain ⟨b, hb, rfl⟩ := den_ptr hx
          refine ⟨_, _, hr.2, mk_ptr hb, fun w _ => ?_⟩
          simp only at i2 j4
          simp [Instr.indexAt, run_underlying i2, asIntOf, Instr.sureAddr, h0, h1, sizeOf, typeInfo, j1, ← j4, add_lit0]
        · exact h.elim
      · exact h.elim
    · rename_i i o len c
      split at h
      · rename_i tg ht
        have hr := Req_elim h
        obtain ⟨h0, h1⟩ := inR_spec hr.1
        obtain ⟨u1, inf, z, u2, u3, u4, u5, u6⟩ := ok.tags t tg ht
        obtain ⟨b, hb, rfl⟩ := den_asl hx
        refine ⟨_, _, hr.2, mk_ptr hb, fun w _ => ?_⟩
        simp [Instr.indexAt, run_underlying u1, asIntOf, h0, h1, sizeOf, typeInfo, u2, u5, add_lit0]
      · exact h.elim
    · exact h.elim
  · exact h.elim

theorem run_loadVar_agg {P : Program} {t : TypeId} {d : TypeDesc} {i : TypeInfo} {w : World} (hu : P.underlying t = some d) (hi : P.info? t = some i) (ha : isAggD d = true) (a : Addr) (cs : List Value) (hl : cs.length = i.size)
    (hc : ∀ j v, cs[j]? = some v → w.cell? (a.add j) = some v) : (loadVar t a).run P w = .ok (.agg cs.toArray) w := by
  have h := run_loadCells_list (P := P) w a cs hc
  rw [hl] at h
  unfold loadVar
  simp only [Sem.run_bind, run_isAgg hu, Result.andThen_ok, ha, if_true, run_sizeOf' hi, h, Sem.run_pure]

theorem run_loadVar_cell {P : Program} {t : TypeId} {d : TypeDesc} {w : World} (hu : P.underlying t = some d) (ha : isAggD d = false) (a : Addr) (v : Value)
    (hc : w.cell? a = some v) : (loadVar t a).run P w = .ok v w := by
  unfold loadVar
  simp [Sem.run_bind, run_isAgg hu, Result.andThen_ok, ha, hc]

theorem cells_get {T : TypeId} {cs : List V} {w : World} {x : Value} {G : List Nat} (h : (Blk.cells T cs).holds cfg.elT ρ w x G) :
    ∃ b vs, x = .pointer (some ⟨b, 0, none⟩) ∧ denL ρ cs = some vs ∧ ∀ j, w.cell? ⟨b, j, none⟩ = vs[j]? := by
  obtain ⟨b, vs, h1, h2, h3, U, h4⟩ := h
  exact ⟨b, vs, h1, h3, fun j => by simp [World.cell?, h4]⟩

theorem loadV_sound {t : TypeId} {x : V} {a : Value} (h : loadV cfg lk HR t x k) (hx : Rel ρ x a)
    {w0 : World} (hS : SatR cfg lk ρ F HR w0) : Told k ρ (SatR cfg lk ρ F HR) cfg.P (Instr.loadAt t a) := by
  unfold loadV at h
  split at h
  · exact h.elim
  · rename_i i hi
    obtain ⟨inf, z, i1, i2, i3, i4, i5⟩ := Cfg.ty_spec hi
    split at h
    · rename_i b o
      obtain ⟨g, hb, rfl⟩ := den_ptr hx
      split at h
      · rename_i T cs hH
        have hc := cond_elim h
        have hm := hc.1
        have h := hc.2
        obtain ⟨x0, hx1, hx2⟩ := hS b _ hH hm
        rw [hb] at hx1; injection hx1 with hx1; subst hx1
        obtain ⟨g', vs, e, hvs, hcell0⟩ := cells_get hx2
        injection e with e; injection e with e; injection e with e; subst e
        have hget : ∀ w, SatR cfg lk ρ F HR w → ∀ j, w.cell? ⟨g, j, none⟩ = vs[j]? := by
          intro w hw
          obtain ⟨x0, hx1, hx2⟩ := hw b _ hH hm
          rw [hb] at hx1; injection hx1 with hx1; subst hx1
          obtain ⟨g', vs', e, hvs', hcell⟩ := cells_get hx2
          injection e with e; injection e with e; injection e with e; subst e
          rw [hvs] at hvs'; injection hvs' with hvs'; subst hvs'
          exact hcell
        cases hd : isAggD i.desc with
        | true =>
          rw [hd] at h
          have hq := cond_elim h
          have hle : o + i.size ≤ cs.length := Nat.le_of_ble_eq_true hq.1
          have hl := denL_len hvs
          have hv' : denL ρ ((cs.drop o).take i.size) = some ((vs.drop o).take i.size) := denL_take _ (denL_drop _ hvs)
          refine ⟨_, _, hq.2, .inr (by simp only [V.den, hv']; rfl), fun w hw => ?_⟩
          simp only [Instr.loadAt, Instr.sureAddr, Sem.run_bind, Sem.run_pure, Result.andThen_ok]
          refine run_loadVar_agg i2 i1 hd _ _ (by simp; omega) (fun j v hj => ?_)
          rw [add_lit0, hget w hw]
          rw [List.getElem?_take] at hj
          split at hj
          · rw [List.getElem?_drop] at hj; exact hj
          · cases hj
        | false =>
          rw [hd] at h
          simp only [cond_false] at h
          split at h
          · rename_i v hv
            obtain ⟨y, hy1, hy2⟩ := denL_get hvs o v hv
            refine ⟨_, _, h, .inr hy2, fun w hw => ?_⟩
            simp only [Instr.loadAt, Instr.sureAddr, Sem.run_bind, Sem.run_pure, Result.andThen_ok]
            exact run_loadVar_cell i2 hd _ _ (by rw [hget w hw]; exact hy1)
          · exact h.elim
      · exact h.elim
    · rename_i b n lo m j
      obtain ⟨ad, len, cap, hb, hn, rfl⟩ := den_eptr hx
      split at h
      · rename_i tg l ro hH
        have hc := cond_elim h
        have hm := hc.1
        simp only [Bool.and_eq_true] at hm
        obtain ⟨hm, hmm⟩ := hm
        obtain rfl := Nat.eq_of_beq_eq_true hmm
        have hr := Req_elim hc.2
        obtain ⟨h0, h1⟩ := inR_spec hr.1
        have hh := hr.2
        clear h hc
        have hget : ∀ w, SatR cfg lk ρ F HR w → ∀ p y, (flat tg l)[p]? = some y → w.cell? (ad.add p) = some y := by
          intro w hw p y hp
          obtain ⟨x0, hx1, hx2⟩ := hw b _ hH hm
          rw [hb] at hx1; injection hx1 with hx1; subst hx1
          obtain ⟨ad', cap', he, hcap, hcm, hnone, hcells⟩ := row_val hx2
          injection he with e1 e2 e3; subst e1
          obtain ⟨ad'', e, _, hc⟩ := hcells p y hp
          injection e with e; subst e; exact hc
        have hk : (offs n lo).toNat < l.length := by omega
        have hflat := fun j hj => flat_get tg l (offs n lo).toNat hk j hj
        have hel := elEnc_len tg (l.getD (offs n lo).toNat (elD tg))
        generalize l.getD (offs n lo).toNat (elD tg) = e at hh hflat hel
        generalize (offs n lo).toNat = q at *
        cases hd : isAggD i.desc with
        | true =>
          rw [hd] at hh
          simp only [cond_true] at hh
          cases hj : (Nat.beq j 0 && Nat.beq i.size (elM tg)) with
          | true =>
            rw [hj] at hh
            simp only [cond_true] at hh
            simp only [Bool.and_eq_true] at hj
            obtain rfl := Nat.eq_of_beq_eq_true hj.1
            have hsz := Nat.eq_of_beq_eq_true hj.2
            refine ⟨_, _, hh, .inr (by simp only [V.den, denL_ext]; rfl), fun w hw => ?_⟩
            simp only [Instr.loadAt, Instr.sureAddr, Sem.run_bind, Sem.run_pure, Result.andThen_ok]
            refine run_loadVar_agg i2 i1 hd _ _ (by rw [hel, ← hsz, i4]) (fun p v hp => ?_)
            rw [add_add]
            refine hget w hw _ _ ?_
            have hpl : p < elM tg := by rw [← hel]; exact (List.getElem?_eq_some_iff.1 hp).1
            rw [Nat.add_zero, hflat p hpl]; exact hp
          | false =>
            rw [hj] at hh
            simp only [cond_false] at hh
            have hq := cond_elim hh
            have hle : j + i.size ≤ elM tg := Nat.le_of_ble_eq_true hq.1
            refine ⟨_, _, hq.2, .inr (by simp only [V.den, denL_ext]; rfl), fun w hw => ?_⟩
            simp only [Instr.loadAt, Instr.sureAddr, Sem.run_bind, Sem.run_pure, Result.andThen_ok]
            refine run_loadVar_agg i2 i1 hd _ _ (by simp [hel]; omega) (fun p v hp => ?_)
            rw [List.getElem?_take] at hp
            split at hp
            · rename_i hpl
              rw [List.getElem?_drop] at hp
              rw [add_add, Nat.add_assoc]
              exact hget w hw _ _ (by rw [hflat (j + p) (by omega)]; exact hp)
            · cases hp
        | false =>
          rw [hd] at hh
          simp only [cond_false] at hh
          split at hh
          · rename_i v hv
            have hjl : j < elM tg := by rw [← hel]; exact (List.getElem?_eq_some_iff.1 hv).1
            refine ⟨_, _, hh, .inr rfl, fun w hw => ?_⟩
            simp only [Instr.loadAt, Instr.sureAddr, Sem.run_bind, Sem.run_pure, Result.andThen_ok]
            exact run_loadVar_cell i2 hd _ _ (hget w hw _ _ (by rw [hflat j hjl]; exact hv))
          · exact hh.elim
      · exact h.elim
    · exact h.elim

theorem fieldV_sound {t : TypeId} {f : Nat} {x : V} {a : Value} (h : fieldV cfg t x f k) (hx : Rel ρ x a) (S : World → Prop) : Told k ρ S cfg.P (Instr.field t a f) := by
  unfold fieldV at h
  split at h
  · exact h.elim
  · rename_i off T hf
    obtain ⟨fs, fd, h1, h2, rfl, rfl⟩ := fieldOff_spec hf
    split at h
    · rename_i i hi
      obtain ⟨inf, z, i1, i2, i3, i4, i5⟩ := Cfg.ty_spec hi
      split at h
      · rename_i cs
        have ha := hx.den (by simp)
        simp only [V.den] at ha
        split at ha
        · rename_i vs hvs
          injection ha with ha; subst ha
          cases hd : isAggD i.desc with
          | true =>
            rw [hd] at h
            have hq := cond_elim h
            have hv' : denL ρ ((cs.drop fd.offset).take i.size) = some ((vs.drop fd.offset).take i.size) := denL_take _ (denL_drop _ hvs)
            refine ⟨_, _, hq.2, .inr (by simp only [V.den, hv']; rfl), fun w hw => ?_⟩
            simp only [Instr.field, Sem.run_bind, run_underlying h1, Result.andThen_ok, h2, asAgg, Sem.run_pure]
            rw [(run_part' i2 i1 vs fd.offset w).1 hd, i4]
          | false =>
            rw [hd] at h
            simp only [cond_false] at h
            split at h
            · rename_i v hv
              obtain ⟨y, hy1, hy2⟩ := denL_get hvs _ v hv
              refine ⟨_, _, h, .inr hy2, fun w hw => ?_⟩
              simp only [Instr.field, Sem.run_bind, run_underlying h1, Result.andThen_ok, h2, asAgg, Sem.run_pure]
              exact (run_part' i2 i1 vs fd.offset w).2 hd y hy1
            · exact h.elim
        · cases ha
      · exact h.elim
    · exact h.elim

theorem extractV_sound {ix : Nat} {x : V} {a : Value} {P : Program} (h : extractV x ix k) (hx : Rel ρ x a) (S : World → Prop) : Told k ρ S P (Instr.extract a ix) := by
  unfold extractV at h
  split at h
  · rename_i vs
    have ha := hx.den (by simp)
    simp only [V.den] at ha
    split at ha
    · rename_i xs hxs
      injection ha with ha; subst ha
      split at h
      · rename_i v hv
        obtain ⟨y, hy1, hy2⟩ := denL_get hxs _ v hv
        exact ⟨_, _, h, .inr hy2, fun w hw => by simp [Instr.extract, hy1]⟩
      · exact h.elim
    · cases ha
  · exact h.elim

theorem lenOf_spec (hS : RowShape ρ HR) {x : V} {a : Value} {n : Nat} (hx : Rel ρ x a) (h : lenOf HR x = some n) : ∃ ad cap, a = .slice ad n cap := by
  unfold lenOf at h
  split at h
  · rename_i i
    split at h
    · rename_i t l ro hH
      injection h with h
      have ha := den_row hx
      obtain ⟨ad, cap, hx1, _⟩ := hS i _ _ _ hH
      rw [ha] at hx1; injection hx1 with hx1; subst hx1
      exact ⟨ad, cap, by rw [h]⟩
    · cases h
  · injection h with h
    obtain ⟨ad, len, cap, hb, rfl⟩ := den_sub hx
    exact ⟨_, _, by rw [h]⟩
  · injection h with h
    have := den_ext hx
    exact ⟨none, 0, by rw [this, ← h]⟩
  · injection h with h
    obtain ⟨b, hb, rfl⟩ := den_asl hx
    exact ⟨_, _, by rw [h]⟩
  · cases h

theorem lenV_sound (ok : CfgOK cfg) {t ty : TypeId} {x : V} {a : Value} (h : lenV cfg HR t x k) (hx : Rel ρ x a)
    (hS : RowShape ρ HR) (S : World → Prop) : Told k ρ S cfg.P (Builtin.len_ #[t] ty #[a]) := by
  unfold lenV at h
  split at h
  · exact h.elim
  · rename_i tg ht
    obtain ⟨u1, inf, z, u2, u3, u4, u5, u6⟩ := ok.tags t tg ht
    split at h
    · rename_i n hn
      obtain ⟨ad, cap, rfl⟩ := lenOf_spec hS hx hn
      exact ⟨_, _, h, .inr rfl, fun w _ => by simp [Builtin.len_, run_underlying u1, goInt]⟩
    · exact h.elim

theorem maxV_sound {P : Program} {ts : Array TypeId} {ty : TypeId} {x y : V} {a b : Value} (h : maxV x y k) (hx : Rel ρ x a) (hy : Rel ρ y b) (S : World → Prop) : Told k ρ S P (Builtin.max_ ts ty #[a, b]) := by
  unfold maxV at h
  split at h
  · have ha := den_ext hx; have hb := den_ext hy
    subst ha; subst hb
    exact ⟨_, _, h, .inr rfl, fun w _ => by simp [Builtin.max_, Builtin.max2]⟩
  · exact h.elim

theorem minV_sound {P : Program} {ts : Array TypeId} {ty : TypeId} {x y : V} {a b : Value} (h : minV x y k) (hx : Rel ρ x a) (hy : Rel ρ y b) (S : World → Prop) : Told k ρ S P (Builtin.min_ ts ty #[a, b]) := by
  unfold minV at h
  split at h
  · have ha := den_ext hx; have hb := den_ext hy
    subst ha; subst hb
    exact ⟨_, _, h, .inr rfl, fun w _ => by simp [Builtin.min_, Builtin.min2]⟩
  · exact h.elim

theorem minL_sound {P : Program} {env : Env} {a : Act} (hE : ∀ t, Rel ρ (env t) (a.tmps.getD t undef)) : ∀ (xs : List Operand) (n : Int) {k : V → Prop}, minL n (xs.map (ev env)) k →
    ∃ m : Int, k (vi m) ∧ ∀ w, (List.foldlM Builtin.min2 (i64 n) (xs.map a.eval)).run P w = .ok (i64 m) w
  | [], n, k, h => ⟨n, h, fun w => rfl⟩
  | x :: r, n, k, h => by
    simp only [List.map_cons, minL] at h
    split at h
    · rename_i b hb
      have hx := REnv.ev hE x
      rw [hb] at hx
      have hx := den_ext hx
      obtain ⟨m, h1, h2⟩ := minL_sound (P := P) hE r _ h
      refine ⟨m, h1, fun w => ?_⟩
      simp only [List.map_cons, List.foldlM_cons, Sem.run_bind, hx, Builtin.min2, Sem.run_pure, Result.andThen_ok]
      exact h2 w
    · exact h.elim

theorem sliceOp_spec {len cap cap' : Nat} {lo hi : Option Int} {K : Nat → Nat → Prop} (h : sliceOp len cap lo hi K) (h1 : len ≤ cap) (h2 : cap ≤ cap')
    {lo' hi' : Option Value} (hlo : ∀ n, lo = some n → ∃ kd, lo' = some (.int kd n)) (hlo' : lo = none → lo' = none) (hhi : ∀ n, hi = some n → ∃ kd, hi' = some (.int kd n)) (hhi' : hi = none → hi' = none) :
    ∃ l n, K l n ∧ l + n ≤ cap ∧ ∀ (P : Program) w, (Instr.sliceBounds true len cap' lo' hi' none).run P w = .ok (l, l + n, cap') w := by
  unfold sliceOp at h
  cases lo with
  | none =>
    obtain rfl := hlo' rfl
    cases hi with
    | none =>
      obtain rfl := hhi' rfl
      exact ⟨0, len, h, by omega, fun P w => by simp [Instr.sliceBounds]⟩
    | some hv =>
      obtain ⟨kd, rfl⟩ := hhi hv rfl
      have hr := Req_elim h
      have hq : 0 ≤ hv ∧ hv ≤ (cap : Int) := by simpa using hr.1
      exact ⟨0, hv.toNat, hr.2, by omega, fun P w => by
        have : 0 ≤ hv ∧ hv ≤ (cap' : Int) := by omega
        simp [Instr.sliceBounds, Instr.sliceBound, asIntOf, this]⟩
  | some l =>
    obtain ⟨kl, rfl⟩ := hlo l rfl
    cases hi with
    | none =>
      obtain rfl := hhi' rfl
      have hr := Req_elim h
      have hq : 0 ≤ l ∧ l ≤ (len : Int) := by simpa using hr.1
      refine ⟨l.toNat, len - l.toNat, hr.2, by omega, fun P w => ?_⟩
      have e : l.toNat + (len - l.toNat) = len := by omega
      rw [e]
      simp [Instr.sliceBounds, Instr.sliceBound, asIntOf, hq]
    | some hv =>
      obtain ⟨kd, rfl⟩ := hhi hv rfl
      have hr := Req_elim h
      have hq : 0 ≤ hv ∧ hv ≤ (cap : Int) := by simpa using hr.1
      have hr' := Req_elim hr.2
      have hq' : 0 ≤ l ∧ l ≤ hv := by simpa using hr'.1
      refine ⟨l.toNat, hv.toNat - l.toNat, hr'.2, by omega, fun P w => ?_⟩
      have e : l.toNat + (hv.toNat - l.toNat) = hv.toNat := by omega
      rw [e]
      have h3 : 0 ≤ hv ∧ hv ≤ (cap' : Int) := by omega
      have h4 : 0 ≤ l ∧ l ≤ (hv.toNat : Int) := by omega
      simp [Instr.sliceBounds, Instr.sliceBound, asIntOf, h3, hq'.1]
      intro hlt
      omega


theorem sliceV_sound (ok : CfgOK cfg) {t : TypeId} {x : V} {a : Value} {lo hi : Option Int} (h : sliceV cfg HR t x lo hi k) (hx : Rel ρ x a)
    (hS : RowShape ρ HR) (S : World → Prop)
    {lo' hi' : Option Value} (hlo : ∀ n, lo = some n → ∃ kd, lo' = some (.int kd n)) (hlo' : lo = none → lo' = none) (hhi : ∀ n, hi = some n → ∃ kd, hi' = some (.int kd n)) (hhi' : hi = none → hi' = none) :
    Told k ρ S cfg.P (Instr.sliceAt t a lo' hi' none) := by
  unfold sliceV at h
  split at h
  · exact h.elim
  · rename_i tg ht
    obtain ⟨u1, inf, z, u2, u3, u4, u5, u6⟩ := ok.tags t tg ht
    have key : ∀ (ad : Option Addr) (n cap : Nat) (P : Program) (w : World) (l m : Nat), (Instr.sliceBounds true n cap lo' hi' none).run cfg.P w = .ok (l, m, cap) w →
        (Instr.sliceAt t (.slice ad n cap) lo' hi' none).run cfg.P w = .ok (.slice (if cap = l then ad else ad.map (·.add (l * elM tg))) (m - l) (cap - l)) w := by
      intro ad n cap P w l m hb
      simp only [Instr.sliceAt, Sem.run_bind, run_underlying u1, Result.andThen_ok, Instr.slice, hb, run_sizeOf' u2, u5, Sem.run_pure]
    split at h
    · rename_i i
      split at h
      · rename_i len hl
        obtain ⟨ad, cap, rfl⟩ := lenOf_spec hS hx hl
        have ha := den_row hx
        have hcap : len ≤ cap := by
          unfold lenOf at hl
          simp only at hl
          split at hl
          · rename_i t' l' ro hH
            injection hl with hl
            obtain ⟨ad', cap', hx1, hcap, _⟩ := hS i _ _ _ hH
            rw [ha] at hx1; injection hx1 with hx1
            injection hx1 with e1 e2 e3
            rw [e2, e3]; exact hcap
          · cases hl
        obtain ⟨l, n, hk, hln, hb⟩ := sliceOp_spec h (Nat.le_refl _) hcap hlo hlo' hhi hhi'
        refine ⟨_, _, hk, mk_sub ha, fun w _ => ?_⟩
        rw [key ad len cap cfg.P w l (l + n) (hb cfg.P w)]
        rw [Nat.add_sub_cancel_left]
      · exact h.elim
    · exact h.elim


theorem noJunk_den {ρ : List Value} {env : Env} {a : Act} (hE : ∀ t, Rel ρ (env t) (a.tmps.getD t undef)) :
    ∀ (xs : List Operand), noJunk (xs.map (ev env)) = true → denL ρ (xs.map (ev env)) = some (xs.map a.eval)
  | [], _ => rfl
  | x :: r, h => by
    have hx := REnv.ev hE x
    simp only [List.map_cons] at h ⊢
    have hj : ev env x ≠ .junk ∧ noJunk (r.map (ev env)) = true := by
      generalize ev env x = v at h
      cases v <;> simp_all [noJunk]
    simp only [denL, hx.den hj.1, noJunk_den hE r hj.2]

theorem optInt_spec {ρ : List Value} {env : Env} {a : Act} (hE : ∀ t, Rel ρ (env t) (a.tmps.getD t undef)) {x : Option Operand} {n : Option Int} (h : optInt env x = some n) :
    (∀ m, n = some m → ∃ kd, x.map a.eval = some (.int kd m)) ∧ (n = none → x.map a.eval = none) := by
  cases x with
  | none => simp only [optInt, Option.some.injEq] at h; subst h; exact ⟨(fun m h => by cases h), fun _ => rfl⟩
  | some x =>
    have hx := REnv.ev hE x
    simp only [optInt] at h
    split at h
    · rename_i q hq
      simp only [Option.some.injEq] at h
      subst h
      refine ⟨fun m hm => ?_, (fun h => by cases h)⟩
      injection hm with hm
      subst hm
      unfold natOf at hq
      split at hq
      · rename_i kd p hp
        injection hq with hq
        subst hq
        rw [hp] at hx
        exact ⟨kd, by simp [den_ext hx]⟩
      · cases hq
    · cases h

/-- What stands at a test: both ways. -/
theorem br_elim {b : Bool} {A B : Prop} (h : br b A B) : (b = true ∧ A) ∨ (b = false ∧ B) := by
  cases b with
  | true => exact .inl ⟨rfl, h⟩
  | false => exact .inr ⟨rfl, h⟩

theorem list2 {α : Type} {a : Array α} {x y : α} (h : a.toList = [x, y]) : a = #[x, y] := by rw [← Array.toArray_toList (xs := a), h]
theorem list1 {α : Type} {a : Array α} {x : α} (h : a.toList = [x]) : a = #[x] := by rw [← Array.toArray_toList (xs := a), h]
theorem list0 {α : Type} {a : Array α} (h : a.toList.isEmpty = true) : a = #[] := by
  have : a.toList = [] := by simpa using h
  rw [← Array.toArray_toList (xs := a), this]

theorem told_run {P : Program} {S : World → Prop} {m : Sem Value} {s : Sem Next} (h : Told k ρ S P m) (e : s = (do pure (.value (← m)))) :
    ∃ v x, k v ∧ Rel ρ v x ∧ ∀ w, S w → s.run P w = .ok (.value x) w := by
  obtain ⟨v, x, h1, h2, h3⟩ := h
  exact ⟨v, x, h1, h2, fun w hw => by rw [e, Sem.run_bind, h3 w hw]; rfl⟩

/-- Values that stand in one cell. -/
theorem leaf_den {v : V} {x : Value} (h : leaf v = true) (e : v.den ρ = some x) : x.oneCell' = true ∧ x.cells = #[x] := by
  cases v with
  | ext y =>
    simp only [V.den, Option.some.injEq] at e
    subst e
    cases y <;> first | (simp [leaf] at h; done) | exact ⟨rfl, rfl⟩
  | junk => simp [leaf] at h
  | agg cs => simp [leaf] at h
  | tup cs => simp [leaf] at h
  | ptr i o => simp only [V.den] at e; split at e <;> first | (injection e with e; subst e; exact ⟨rfl, rfl⟩) | cases e
  | eptr i n lo m j =>
    simp only [V.den] at e; split at e
    · cases hk : decide (0 ≤ n) <;> rw [hk] at e
      · cases e
      · injection e with e; subst e; exact ⟨rfl, rfl⟩
    · cases e
  | row i => simp only [V.den] at e; split at e <;> first | (injection e with e; subst e; exact ⟨rfl, rfl⟩) | cases e
  | sub i lo n m => simp only [V.den] at e; split at e <;> first | (injection e with e; subst e; exact ⟨rfl, rfl⟩) | cases e
  | fn f cs => simp only [V.den] at e; split at e <;> first | (injection e with e; subst e; exact ⟨rfl, rfl⟩) | cases e
  | asl i o n c => simp only [V.den] at e; split at e <;> first | (injection e with e; subst e; exact ⟨rfl, rfl⟩) | cases e
  | mp i => simp only [V.den] at e; split at e <;> first | (injection e with e; subst e; exact ⟨rfl, rfl⟩) | cases e
  | mth f x => simp only [V.den] at e; split at e <;> first | (injection e with e; subst e; exact ⟨rfl, rfl⟩) | cases e

theorem allLeaf_den : ∀ {vs : List V} {xs : List Value}, allLeaf vs = true → denL ρ vs = some xs → ∀ x ∈ xs, x.oneCell' = true
  | [], xs, _, e => by simp [denL] at e; subst e; simp
  | v :: r, xs, h, e => by
    simp only [allLeaf, Bool.and_eq_true] at h
    simp only [denL] at e
    cases hv : v.den ρ with
    | none => simp [hv] at e
    | some x =>
      cases hr : denL ρ r with
      | none => simp [hv, hr] at e
      | some ys =>
        simp only [hv, hr] at e; injection e with e; subst e
        intro y hy
        rcases List.mem_cons.1 hy with rfl | hy
        · exact (leaf_den h.1 hv).1
        · exact allLeaf_den h.2 hr y hy

theorem vcells_den {v : V} {x : Value} (h : Rel ρ v x) (hl : allLeaf (vcells v) = true) : denL ρ (vcells v) = some x.cells.toList := by
  have single : ∀ v : V, leaf v = true → Rel ρ v x → denL ρ [v] = some x.cells.toList := fun v hv hr => by
    have hd := hr.den (by rintro rfl; simp [leaf] at hv)
    obtain ⟨_, h2⟩ := leaf_den hv hd
    rw [h2]
    simp [denL, hd]
  unfold vcells at hl ⊢
  split at hl
  · rename_i cs
    have hd := h.den (by simp)
    simp only [V.den] at hd
    split at hd
    · rename_i vs hvs; injection hd with hd; subst hd; simpa [Value.cells] using hvs
    · cases hd
  · rename_i cs
    have hd := den_ext h
    subst hd
    simpa [Value.cells] using denL_ext (ρ := ρ) cs.toList
  · simp only [allLeaf, Bool.and_true] at hl
    exact single _ hl h


theorem setCells_len : ∀ (xs cs : List V) (o : Nat), (setCells cs o xs).length = cs.length
  | [], _, _ => rfl
  | v :: r, cs, o => by simp [setCells, setCells_len r]

theorem setCells_den : ∀ (vs : List V) (xs : List Value) (cs : List V) (ys : List Value) (o : Nat), denL ρ vs = some xs → denL ρ cs = some ys → o + vs.length ≤ cs.length →
    denL ρ (setCells cs o vs) = some (ys.take o ++ xs ++ ys.drop (o + xs.length))
  | [], xs, cs, ys, o, h, g, _ => by simp [denL] at h; subst h; simpa [setCells] using g
  | v :: r, xs, cs, ys, o, h, g, hl => by
    simp only [denL] at h
    cases hv : v.den ρ with
    | none => simp [hv] at h
    | some x =>
      cases hr : denL ρ r with
      | none => simp [hv, hr] at h
      | some zs =>
        simp only [hv, hr] at h; injection h with h; subst h
        have hlen := denL_len g
        have hlen' := denL_len hr
        have := setCells_den r zs (cs.set o v) (ys.set o x) (o + 1) hr (denL_set o v x g hv) (by simp at hl ⊢; omega)
        simp only [setCells]
        rw [this, list_seg_step ys o x zs (by simp at hl; omega)]
        rfl


theorem fold_set (off : Nat) : ∀ (vs : List Value) (s : Nat) (C : Array Value), off + s + vs.length ≤ C.size →
    ((vs.zipIdx s).foldl (fun (cs : Array Value) (p : Value × Nat) => cs.setIfInBounds (off + p.2) p.1) C).toList = C.toList.take (off + s) ++ vs ++ C.toList.drop (off + s + vs.length)
  | [], s, C, _ => by simp
  | v :: r, s, C, h => by
    rw [List.zipIdx_cons, List.foldl_cons, fold_set off r (s + 1) _ (by simp at h ⊢; omega)]
    have hsz : off + s + (r.length + 1) ≤ C.toList.length := by simpa using h
    rw [Array.toList_setIfInBounds]
    have e := list_seg_step C.toList (off + s) v r hsz
    have e1 : off + (s + 1) = off + s + 1 := by omega
    rw [e1, e]
    simp

theorem fold_cells (off : Nat) (v : Value) (C : Array Value) (h : off + v.cells.size ≤ C.size) :
    (v.cells.zipIdx.foldl (fun (cs : Array Value) (p : Value × Nat) => cs.setIfInBounds (off + p.2) p.1) C).toList = C.toList.take off ++ v.cells.toList ++ C.toList.drop (off + v.cells.toList.length) := by
  have e := fold_set off v.cells.toList 0 C (by simpa using h)
  rw [← Array.foldl_toList, Array.toList_zipIdx]
  simpa using e

theorem fieldTy_run {P : Program} (w : World) (size : TypeId → Nat) : ∀ (fs : List Field), (∀ f ∈ fs, (sizeOf f.type).run P w = .ok (size f.type) w) →
    (fs.mapM fun f => (do pure (f.offset, ← sizeOf f.type) : Sem (Nat × Nat))).run P w = .ok (fs.map fun f => (f.offset, size f.type)) w
  | [], _ => by simp
  | f :: r, h => by
    have h1 := h f (by simp)
    have h2 := fieldTy_run w size r (fun g hg => h g (by simp [hg]))
    rw [List.mapM_cons, Sem.run_bind, Sem.run_bind, h1]
    simp only [Result.andThen_ok, Sem.run_pure, Sem.run_bind, h2, List.map_cons]

theorem buildGo_sound {t : TypeId} {env : Env} {a : Act} (hE : ∀ t, Rel ρ (env t) (a.tmps.getD t undef)) {place : Nat → Option (Nat × Nat)}
    (hpl : ∀ i off T inf, fieldOff cfg t i = some (off, T) → cfg.ty T = some inf → place i = some (off, inf.size)) :
    ∀ (ps : List (Nat × Operand)) (cs cs' : List V) (zs : List Value), buildGo cfg t env ps cs = some cs' → denL ρ cs = some zs →
      ∃ zs', denL ρ cs' = some zs' ∧ Instr.fill place zs.toArray (ps.map fun p => (p.1, a.eval p.2)) = some zs'.toArray
  | [], cs, cs', zs, h, hz => by
    simp only [buildGo, Option.some.injEq] at h
    subst h
    exact ⟨zs, hz, rfl⟩
  | (i, x) :: r, cs, cs', zs, h, hz => by
    simp only [buildGo] at h
    split at h
    · cases h
    · rename_i off T hf
      split at h
      · cases h
      · rename_i inf hi
        cases hc : (Nat.beq (vcells (ev env x)).length inf.size && (Nat.ble (off + (vcells (ev env x)).length) cs.length && allLeaf (vcells (ev env x)))) with
        | false => rw [hc] at h; cases h
        | true =>
          rw [hc] at h
          simp only [Bool.and_eq_true] at hc
          obtain ⟨hsz, hfit, hleaf⟩ := hc
          have hsz := Nat.eq_of_beq_eq_true hsz
          have hfit := Nat.le_of_ble_eq_true hfit
          have hd := vcells_den (REnv.ev hE x) hleaf
          have hdl := denL_len hd
          have hzl := denL_len hz
          have hset := setCells_den _ _ _ _ off hd hz hfit
          obtain ⟨zs', h1, h2⟩ := buildGo_sound hE hpl r _ cs' _ h hset
          refine ⟨zs', h1, ?_⟩
          have hxs : (a.eval x).cells.size = inf.size := by rw [← hsz, hdl, Array.length_toList]
          simp only [List.map_cons, Instr.fill, hpl i off T inf hf hi]
          rw [if_neg (by rw [hxs]; simp; omega)]
          have hfold := fold_cells off (a.eval x) zs.toArray (by rw [hxs]; simp; omega)
          rw [← h2]
          congr 1
          apply Array.ext'
          rw [hfold]

theorem buildV_sound {t : TypeId} {parts : Array (Nat × Operand)} {env : Env} {a : Act} (h : buildV cfg t parts.toList env k) (hE : ∀ t, Rel ρ (env t) (a.tmps.getD t undef)) (S : World → Prop) :
    Told k ρ S cfg.P (Instr.build t (parts.map fun (i, x) => (i, a.eval x))) := by
  unfold buildV at h
  split at h
  · rename_i fs _ zero _ hty
    have hc := cond_elim h
    have hall := hc.1
    have hh := hc.2
    obtain ⟨inf, z, h1, h2, h3, h4, h5⟩ := Cfg.ty_spec hty
    simp only at h2 h5
    split at hh
    · rename_i cs hcs
      have hfs : ∀ f ∈ fs.toList, ∃ i, cfg.ty f.type = some i := fun f hf => by
        have := List.all_eq_true.1 hall f hf
        exact Option.isSome_iff_exists.1 this
      have hrun : ∀ w, (fs.mapM fun f => (do pure (f.offset, ← sizeOf f.type) : Sem (Nat × Nat))).run cfg.P w = .ok (fs.toList.map fun f => (f.offset, ((cfg.ty f.type).map TyI.size).getD 0)).toArray w := by
        intro w
        have e : fs = fs.toList.toArray := by simp
        rw [e, List.mapM_toArray, map_eq_pure_bind, Sem.run_bind, fieldTy_run w (fun T => ((cfg.ty T).map TyI.size).getD 0) fs.toList (fun f hf => ?_)]
        · simp
        · obtain ⟨i, hi⟩ := hfs f hf
          obtain ⟨inf', z', g1, g2, g3, g4, g5⟩ := Cfg.ty_spec hi
          rw [run_sizeOf' g1, hi, Option.map_some, Option.getD_some, g4]
      have hplace : ∀ (i off : Nat) (T : TypeId) (inf' : TyI), fieldOff cfg t i = some (off, T) → cfg.ty T = some inf' →
          ((fs.toList.map fun f => (f.offset, ((cfg.ty f.type).map TyI.size).getD 0)).toArray)[i]? = some (off, inf'.size) := by
        intro i off T inf' hf hi
        unfold fieldOff at hf
        rw [hty] at hf
        simp only at hf
        split at hf
        · rename_i fd hfd
          injection hf with hf
          injection hf with e1 e2
          subst e1; subst e2
          rw [List.getElem?_toArray, List.getElem?_map, hfd]
          simp only [Option.map_some, hi, Option.getD_some]
        · cases hf
      obtain ⟨zs', g1, g2⟩ := buildGo_sound hE (place := fun i => ((fs.toList.map fun f => (f.offset, ((cfg.ty f.type).map TyI.size).getD 0)).toArray)[i]?) hplace parts.toList _ cs zero hcs (denL_ext zero)
      refine ⟨_, .agg zs'.toArray, hh, .inr (by simp only [V.den, g1]), fun w _ => ?_⟩
      unfold Instr.build
      have hz : (zeroValue t).run cfg.P w = .ok z w := by simp [zeroValue, typeInfo, h1, h3]
      simp only [Sem.run_bind, hz, Result.andThen_ok, run_underlying h2, hrun w]
      rw [h5, Array.toArray_toList] at g2
      have hpl : (parts.map fun (i, x) => (i, a.eval x)).toList = parts.toList.map fun p => (p.1, a.eval p.2) := by simp
      rw [hpl, g2]
      rfl
    · exact hh.elim
  · exact h.elim

theorem buildGoP_sound {env : Env} {a : Act} (hE : ∀ t, Rel ρ (env t) (a.tmps.getD t undef)) {place : Nat → Option (Nat × Nat)} :
    ∀ (ps : List (Nat × Operand)) (cs cs' : List V) (zs : List Value), buildGoP place env ps cs = some cs' → denL ρ cs = some zs →
      ∃ zs', denL ρ cs' = some zs' ∧ Instr.fill place zs.toArray (ps.map fun p => (p.1, a.eval p.2)) = some zs'.toArray
  | [], cs, cs', zs, h, hz => by
    simp only [buildGoP, Option.some.injEq] at h
    subst h
    exact ⟨zs, hz, rfl⟩
  | (i, x) :: r, cs, cs', zs, h, hz => by
    simp only [buildGoP] at h
    split at h
    · cases h
    · rename_i off sz hf
      cases hc : (Nat.beq (vcells (ev env x)).length sz && (Nat.ble (off + (vcells (ev env x)).length) cs.length && allLeaf (vcells (ev env x)))) with
      | false => rw [hc] at h; cases h
      | true =>
        rw [hc] at h
        simp only [Bool.and_eq_true] at hc
        obtain ⟨hsz, hfit, hleaf⟩ := hc
        have hsz := Nat.eq_of_beq_eq_true hsz
        have hfit := Nat.le_of_ble_eq_true hfit
        have hd := vcells_den (REnv.ev hE x) hleaf
        have hdl := denL_len hd
        have hzl := denL_len hz
        have hset := setCells_den _ _ _ _ off hd hz hfit
        obtain ⟨zs', h1, h2⟩ := buildGoP_sound hE r _ cs' _ h hset
        refine ⟨zs', h1, ?_⟩
        have hxs : (a.eval x).cells.size = sz := by rw [← hsz, hdl, Array.length_toList]
        simp only [List.map_cons, Instr.fill, hf]
        rw [if_neg (by rw [hxs]; simp; omega)]
        have hfold := fold_cells off (a.eval x) zs.toArray (by rw [hxs]; simp; omega)
        rw [← h2]
        congr 1
        apply Array.ext'
        rw [hfold]

theorem buildAV_sound {t : TypeId} {parts : Array (Nat × Operand)} {env : Env} {a : Act} (h : buildAV cfg t parts.toList env k) (hE : ∀ t, Rel ρ (env t) (a.tmps.getD t undef)) (S : World → Prop) :
    Told k ρ S cfg.P (Instr.build t (parts.map fun (i, x) => (i, a.eval x))) := by
  unfold buildAV at h
  split at h
  · rename_i len E _ zero _ hty
    obtain ⟨inf, z, h1, h2, h3, h4, h5⟩ := Cfg.ty_spec hty
    simp only at h2 h5
    split at h
    · rename_i i hi
      obtain ⟨inf', z', g1, g2, g3, g4, g5⟩ := Cfg.ty_spec hi
      split at h
      · rename_i cs hcs
        obtain ⟨zs', q1, q2⟩ := buildGoP_sound hE parts.toList _ cs zero hcs (denL_ext zero)
        refine ⟨_, .agg zs'.toArray, h, .inr (by simp only [V.den, q1]), fun w _ => ?_⟩
        unfold Instr.build
        have hz : (zeroValue t).run cfg.P w = .ok z w := by simp [zeroValue, typeInfo, h1, h3]
        have hsz : (sizeOf E).run cfg.P w = .ok i.size w := by rw [run_sizeOf' g1, g4]
        simp only [Sem.run_bind, hz, Result.andThen_ok, run_underlying h2, hsz]
        rw [h5, Array.toArray_toList] at q2
        have hpl : (parts.map fun (i, x) => (i, a.eval x)).toList = parts.toList.map fun p => (p.1, a.eval p.2) := by simp
        rw [hpl, q2]
        rfl
      · exact h.elim
    · exact h.elim
  · exact h.elim

theorem indexV_sound {t : TypeId} {x ix : V} {a b : Value} (h : indexV cfg t x ix k) (hx : Rel ρ x a) (hi : Rel ρ ix b) (S : World → Prop) : Told k ρ S cfg.P (Instr.index t a b) := by
  unfold indexV at h
  split at h
  · rename_i kd n
    obtain rfl := den_ext hi
    split at h
    · rename_i cs
      have ha := hx.den (by simp)
      simp only [V.den] at ha
      split at ha
      · rename_i vs hvs
        injection ha with ha; subst ha
        split at h
        · rename_i len E _ _ _ hty
          obtain ⟨inf, z, h1, h2, h3, h4, h5⟩ := Cfg.ty_spec hty
          simp only at h2
          split at h
          · rename_i i hE
            obtain ⟨inf', z', g1, g2, g3, g4, g5⟩ := Cfg.ty_spec hE
            have hr := Req_elim h
            obtain ⟨q0, q1⟩ := inR_spec hr.1
            have h := hr.2
            have hsz : ∀ w, (sizeOf E).run cfg.P w = .ok i.size w := fun w => by rw [run_sizeOf' g1, g4]
            cases hd : isAggD i.desc with
            | true =>
              rw [hd] at h
              have hc := cond_elim h
              have hl := Nat.le_of_ble_eq_true hc.1
              refine ⟨_, .agg ((vs.drop (n.toNat * i.size)).take i.size).toArray, hc.2, .inr (by simp only [V.den, denL_take _ (denL_drop _ hvs)]), fun w _ => ?_⟩
              have hp := (run_part' g2 g1 vs (n.toNat * i.size) w).1 hd
              simp only [Instr.index, Sem.run_bind, asIntOf, Sem.run_pure, Result.andThen_ok, run_underlying h2, q0, q1, and_self, if_true, hsz]
              rw [hp, g4]
            | false =>
              rw [hd] at h
              simp only [cond_false] at h
              split at h
              · rename_i v hv
                obtain ⟨y, hy1, hy2⟩ := denL_get hvs _ v hv
                refine ⟨_, y, h, .inr hy2, fun w _ => ?_⟩
                simp only [Instr.index, Sem.run_bind, asIntOf, Sem.run_pure, Result.andThen_ok, run_underlying h2, q0, q1, and_self, if_true, hsz]
                exact (run_part' g2 g1 vs (n.toNat * i.size) w).2 hd y hy1
              · exact h.elim
          · exact h.elim
        · exact h.elim
      · cases ha
    · exact h.elim
  · exact h.elim

theorem mapInt_spec {t : TypeId} (h : mapInt cfg t = true) : ∃ K E i z, cfg.P.underlying t = some (.map K E) ∧ cfg.P.underlying K = some (.int .i64) ∧ cfg.P.info? E = some i ∧ i.zero = some z ∧ z = i64 0 := by
  unfold mapInt at h
  split at h
  · rename_i K E _ _ _ hty
    obtain ⟨inf, z, h1, h2, h3, h4, h5⟩ := Cfg.ty_spec hty
    split at h
    · rename_i i hK hE
      obtain ⟨inf', z', g1, g2, g3, g4, g5⟩ := Cfg.ty_spec hK
      split at h
      · rename_i hz
        exact ⟨K, E, i, _, h2, g2, hE, hz, rfl⟩
      · cases h
    · cases h
  · cases h

theorem findNow_int (a : Int) : ∀ (es : List MapEntry) (i : Nat), (∀ e ∈ es, ∃ k v, e.key = i64 k ∧ e.val = i64 v) →
    (Instr.findNow (.int .i64) (i64 a) es i = some none ∧ ∀ e ∈ es, e.key ≠ i64 a) ∨
    ∃ j e, Instr.findNow (.int .i64) (i64 a) es i = some (some (i + j, e.val)) ∧ es[j]? = some e ∧ e.key = i64 a
  | [], i, _ => .inl ⟨rfl, by simp⟩
  | e :: es, i, h => by
    obtain ⟨k, v, hk, hv⟩ := h e (by simp)
    unfold Instr.findNow
    rw [hk]
    simp only [Instr.sameNow, if_true]
    by_cases he : a = k
    · subst he
      simp only [beq_self_eq_true]
      exact .inr ⟨0, e, rfl, rfl, hk⟩
    · have : (a == k) = false := by simpa using he
      rw [this]
      simp only
      rcases findNow_int a es (i + 1) (fun e he => h e (by simp [he])) with ⟨h1, h2⟩ | ⟨j, e', h1, h2, h3⟩
      · refine .inl ⟨h1, fun x hx => ?_⟩
        rcases List.mem_cons.1 hx with rfl | hx
        · rw [hk]; intro e; injection e with _ e; exact he e.symm
        · exact h2 x hx
      · exact .inr ⟨j + 1, e', by rw [h1]; congr 3; omega, by simpa using h2, h3⟩

theorem run_findKey_int {P : Program} {K : TypeId} (hK : P.underlying K = some (.int .i64)) (a : Int) (es : List MapEntry) (h : ∀ e ∈ es, ∃ k v, e.key = i64 k ∧ e.val = i64 v) (w : World) :
    ((Instr.findKey K (i64 a) es).run P w = .ok none w ∧ ∀ e ∈ es, e.key ≠ i64 a) ∨
    ∃ j e, (Instr.findKey K (i64 a) es).run P w = .ok (some (j, e.val)) w ∧ es[j]? = some e ∧ e.key = i64 a := by
  have run : ∀ r, Instr.findNow (.int .i64) (i64 a) es 0 = some r → (Instr.findKey K (i64 a) es).run P w = .ok r w := fun r hr => by
    unfold Instr.findKey
    simp only [Sem.run_bind, run_underlying hK, Result.andThen_ok, hr, Sem.run_pure]
  rcases findNow_int a es 0 h with ⟨h1, h2⟩ | ⟨j, e, h1, h2, h3⟩
  · exact .inl ⟨run _ h1, h2⟩
  · exact .inr ⟨j, e, by rw [run _ h1, Nat.zero_add], h2, h3⟩

theorem run_checkKey_int {P : Program} {K : TypeId} (hK : P.underlying K = some (.int .i64)) (em : Bool) (a : Int) (w : World) : (Instr.checkKey em 10000 K (i64 a)).run P w = .ok () w := by
  unfold Instr.checkKey
  simp only [Sem.run_bind, run_underlying hK, Result.andThen_ok, Sem.run_pure]

/-- What a map of ints tells of a key. -/
theorem map_look {m : Int → Option Int} {es : List MapEntry} {clock : Nat} (h : entriesOK m es clock) (a : Int) :
    ((∀ e ∈ es, e.key ≠ i64 a) → m a = none) ∧ ∀ e ∈ es, e.key = i64 a → ∃ v, e.val = i64 v ∧ m a = some v := by
  obtain ⟨h1, h2, _⟩ := h
  refine ⟨fun hn => ?_, fun e he hk => ?_⟩
  · cases hm : m a with
    | none => rfl
    | some v =>
      obtain ⟨e, he, hk⟩ := h2 a v hm
      exact absurd hk (hn e he)
  · obtain ⟨k, v, e1, e2, e3⟩ := h1 e he
    rw [hk] at e1
    injection e1 with _ e1
    subst e1
    exact ⟨v, e2, e3⟩

theorem run_getObj' {P : Program} {w : World} {r : Nat} {es : Array MapEntry} {clock : Nat} (h : w.heap[r]? = some (.map es clock)) : (getObj r).run P w = .ok (.map es clock) w := by simp [getObj, Sem.run, h]

theorem lookupV_sound {t : TypeId} {x key : V} {a b : Value} {c : Bool} (h : lookupV cfg lk HR t x key c k) (hx : Rel ρ x a) (hk : Rel ρ key b) :
    Told k ρ (SatR cfg lk ρ F HR) cfg.P (Instr.lookup t a b c) := by
  unfold lookupV at h
  split at h
  · rename_i i
    split at h
    · rename_i q
      obtain rfl := den_ext hk
      split at h
      · rename_i m n hH
        have hc := cond_elim h
        have hc1 := hc.1
        simp only [Bool.and_eq_true] at hc1
        obtain ⟨K, E, inf, z, u1, u2, u3, u4, u5⟩ := mapInt_spec hc1.1
        obtain ⟨bm, hb, rfl⟩ := den_mp hx
        refine ⟨_, (match c with | true => .tuple #[i64 ((m q).getD 0), .bool (m q).isSome] | false => i64 ((m q).getD 0)), hc.2, .inr (by cases c <;> rfl), fun w hw => ?_⟩
        obtain ⟨y, hy, b', es, clock, e1, e2, e3, e4, e5⟩ := hw i _ hH hc1.2
        rw [hb] at hy; injection hy with hy; subst hy
        injection e1 with e1
        injection e1 with e1
        subst e1
        have hes : ∀ e ∈ es.toList, ∃ k v, e.key = i64 k ∧ e.val = i64 v := fun e he => by
          obtain ⟨k, v, p1, p2, _⟩ := e4.1 e he; exact ⟨k, v, p1, p2⟩
        have hzr : (zeroValue E).run cfg.P w = .ok (i64 0) w := by simp [zeroValue, typeInfo, u3, u4, u5]
        obtain ⟨l1, l2⟩ := map_look e4 q
        rcases run_findKey_int u2 q es.toList hes w with ⟨r1, r2⟩ | ⟨j, e, r1, r2, r3⟩
        · cases c <;> simp only [Instr.lookup, Sem.run_bind, run_underlying u1, Result.andThen_ok, run_getObj' e3, Sem.run_pure, run_checkKey_int u2, r1, hzr, l1 r2, Bool.false_eq_true, if_false, if_true, Option.getD_none, Option.isSome_none]
        · obtain ⟨v, p1, p2⟩ := l2 e (List.mem_of_getElem? r2) r3
          cases c <;> simp only [Instr.lookup, Sem.run_bind, run_underlying u1, Result.andThen_ok, run_getObj' e3, Sem.run_pure, run_checkKey_int u2, r1, p1, p2, Bool.false_eq_true, if_false, if_true, Option.getD_some, Option.isSome_some]
      · exact h.elim
    · exact h.elim
  · exact h.elim

theorem pairwise_nodup {es : List MapEntry} (h : es.Pairwise (fun x y => x.born ≠ y.born)) : (es.map MapEntry.born).Nodup := List.pairwise_map.2 h

theorem entryV_sound {x : V} {a : Value} (h : entryV lk HR x k) (hx : Rel ρ x a) : Told k ρ (SatR cfg lk ρ F HR) cfg.P (Instr.entry a) := by
  unfold entryV at h
  split at h
  · rename_i i
    split at h
    · rename_i m left n q y hH
      have hc := cond_elim h
      obtain ⟨r, hb, rfl⟩ := den_ptr hx
      refine ⟨_, .tuple #[i64 q, i64 y], hc.2, .inr rfl, fun w hw => ?_⟩
      obtain ⟨x0, hx0, r', b, es, clock, seen, e1, e2, e3, e4, e5, e6, e7, e8⟩ := hw i _ hH hc.1
      rw [hb] at hx0; injection hx0 with hx0; subst hx0
      injection e1 with e1
      injection e1 with e1
      injection e1 with e1
      subst e1
      obtain ⟨seen', e, rfl, g2, g3, g4⟩ := e8 q y rfl
      have := Go.run_entry_at (P := cfg.P) w r b clock seen' es clock e e5 e4 g2 (pairwise_nodup e6.2.2.2.1)
      rw [g3, g4] at this
      exact this
    · exact h.elim
  · exact h.elim

theorem nilEq_sound {t : TypeId} {x y : Operand} {env : Env} {a : Act} {op : BinOp} {v : V} (h : nilCmp op (nilEq cfg t v y) k) (hx : Rel ρ v (a.eval x)) (S : World → Prop) :
    Told k ρ S cfg.P (do eqGuard op t x y (a.eval x) (a.eval y); binOp op t (a.eval x) (a.eval y)) := by
  have key : ∀ (r : Bool), nilEq cfg t v y = some r → ∀ w, (eqGuard op t x y (a.eval x) (a.eval y)).run cfg.P w = .ok () w ∧
      (binOp .eql t (a.eval x) (a.eval y)).run cfg.P w = .ok (.bool r) w ∧ (binOp .neq t (a.eval x) (a.eval y)).run cfg.P w = .ok (.bool (!r)) w := by
    intro r hr w
    have fin : ∀ (u1 u2 : Value), a.eval x = u1 → a.eval y = u2 → (eqGuard op t x y u1 u2).run cfg.P w = .ok () w → (binOp .eql t u1 u2 = (do pure (.bool (← Op.equal t u1 u2)))) →
        (binOp .neq t u1 u2 = (do pure (.bool (!(← Op.equal t u1 u2))))) → (Op.equal t u1 u2).run cfg.P w = .ok r w →
        (eqGuard op t x y (a.eval x) (a.eval y)).run cfg.P w = .ok () w ∧
      (binOp .eql t (a.eval x) (a.eval y)).run cfg.P w = .ok (.bool r) w ∧ (binOp .neq t (a.eval x) (a.eval y)).run cfg.P w = .ok (.bool (!r)) w := by
      intro u1 u2 h1 h2 h3 h4 h5 h6
      rw [h1, h2]
      exact ⟨h3, by rw [h4, Sem.run_bind, h6]; rfl, by rw [h5, Sem.run_bind, h6]; rfl⟩
    have eqr : ∀ (d : TypeDesc) (u1 u2 : Value) (m : Sem Bool), cfg.P.underlying t = some d → ((Op.equalIn 10000 t u1 u2).run cfg.P w = .ok r w) → (Op.equal t u1 u2).run cfg.P w = .ok r w := fun d u1 u2 m _ h => h
    unfold nilEq at hr
    split at hr
    · split at hr
      · rename_i ps rs vr _ _ _ hty
        obtain ⟨inf, z, h1, h2, h3, h4, h5⟩ := Cfg.ty_spec hty
        simp only at h2
        split at hr
        · injection hr with hr; subst hr
          have ha := hx.den (by simp)
          simp only [V.den] at ha
          split at ha
          · injection ha with ha
            exact fin _ .nilFunc ha.symm rfl (by unfold eqGuard; split <;> simp) rfl rfl (by show (Op.equalIn (9999 + 1) t _ _).run cfg.P w = _; unfold Op.equalIn; simp only [Sem.run_bind, run_underlying h2, Result.andThen_ok, Sem.run_pure])
          · cases ha
        · injection hr with hr; subst hr
          have ha := hx.den (by simp)
          simp only [V.den] at ha
          split at ha
          · injection ha with ha
            exact fin _ .nilFunc ha.symm rfl (by unfold eqGuard; split <;> simp) rfl rfl (by show (Op.equalIn (9999 + 1) t _ _).run cfg.P w = _; unfold Op.equalIn; simp only [Sem.run_bind, run_underlying h2, Result.andThen_ok, Sem.run_pure])
          · cases ha
        · injection hr with hr; subst hr
          have ha := den_ext hx
          exact fin _ .nilFunc ha rfl (by unfold eqGuard; split <;> simp) rfl rfl (by show (Op.equalIn (9999 + 1) t _ _).run cfg.P w = _; unfold Op.equalIn; simp only [Sem.run_bind, run_underlying h2, Result.andThen_ok, Sem.run_pure])
        · cases hr
      · cases hr
    · split at hr
      · rename_i e _ _ _ hty
        obtain ⟨inf, z, h1, h2, h3, h4, h5⟩ := Cfg.ty_spec hty
        simp only at h2
        split at hr
        · injection hr with hr; subst hr
          obtain ⟨b, hb, ha⟩ := den_ptr hx
          exact fin _ (.pointer none) ha rfl (by unfold eqGuard; split <;> simp) rfl rfl (by show (Op.equalIn (9999 + 1) t _ _).run cfg.P w = _; unfold Op.equalIn; simp only [Sem.run_bind, run_underlying h2, Result.andThen_ok, Sem.run_pure])
        · injection hr with hr; subst hr
          obtain ⟨ad, len, cap, hb, hn, ha⟩ := den_eptr hx
          exact fin _ (.pointer none) ha rfl (by unfold eqGuard; split <;> simp) rfl rfl (by show (Op.equalIn (9999 + 1) t _ _).run cfg.P w = _; unfold Op.equalIn; simp only [Sem.run_bind, run_underlying h2, Result.andThen_ok, Sem.run_pure])
        · injection hr with hr; subst hr
          have ha := den_ext hx
          exact fin _ (.pointer none) ha rfl (by unfold eqGuard; split <;> simp) rfl rfl (by show (Op.equalIn (9999 + 1) t _ _).run cfg.P w = _; unfold Op.equalIn; simp only [Sem.run_bind, run_underlying h2, Result.andThen_ok, Sem.run_pure, Option.isNone])
        · cases hr
      · cases hr
    · split at hr
      · rename_i ms _ _ _ hty
        obtain ⟨inf, z, h1, h2, h3, h4, h5⟩ := Cfg.ty_spec hty
        simp only at h2
        split at hr
        · injection hr with hr; subst hr
          have ha := den_ext hx
          exact fin _ .nilIface ha rfl (by unfold eqGuard; split <;> simp) rfl rfl (by show (Op.equalIn (9999 + 1) t _ _).run cfg.P w = _; unfold Op.equalIn; simp only [Sem.run_bind, run_underlying h2, Result.andThen_ok, Sem.run_pure])
        · injection hr with hr; subst hr
          have ha := den_ext hx
          exact fin _ .nilIface ha rfl (by unfold eqGuard; split <;> simp) rfl rfl (by show (Op.equalIn (9999 + 1) t _ _).run cfg.P w = _; unfold Op.equalIn; simp only [Sem.run_bind, run_underlying h2, Result.andThen_ok, Sem.run_pure])
        · cases hr
      · cases hr
    · cases hr
  unfold nilCmp at h
  split at h
  · rename_i r hr
    split at h
    · exact ⟨_, _, h, .inr rfl, fun w _ => by obtain ⟨k1, k2, k3⟩ := key r hr w; rw [Sem.run_bind, k1]; exact k2⟩
    · exact ⟨_, _, h, .inr rfl, fun w _ => by obtain ⟨k1, k2, k3⟩ := key r hr w; rw [Sem.run_bind, k1]; exact k3⟩
    · exact h.elim
  · exact h.elim

theorem sliceA_sound {t : TypeId} {x : V} {a : Value} {lo hi : Option Int} {m : Int} (h : sliceA cfg t x lo hi (some m) k) (hx : Rel ρ x a) (S : World → Prop)
    {lo' hi' : Option Value} {kd : IntKind} (hlo' : lo = none → lo' = none) (hhi : ∀ n, hi = some n → ∃ kd, hi' = some (.int kd n)) :
    Told k ρ S cfg.P (Instr.sliceAt t a lo' hi' (some (.int kd m))) := by
  unfold sliceA at h
  split at h
  · rename_i i o
    split at h
    · rename_i n E _ _ _ htA
      obtain ⟨inf', z', g1, g2, g3, g4, g5⟩ := Cfg.ty_spec htA
      simp only at g2
      split at h
      · rename_i iE q m' hE hm
        obtain ⟨inf'', z'', e1, e2, e3, e4, e5⟩ := Cfg.ty_spec hE
        injection hm with hm; subst hm
        obtain rfl := hlo' rfl
        obtain ⟨kh, rfl⟩ := hhi q rfl
        have r1 := Req_elim h
        have r2 := Req_elim r1.2
        have r3 := Req_elim r2.2
        have c1 : 0 ≤ m ∧ m ≤ (n : Int) := by simpa using r1.1
        have c2 : 0 ≤ q ∧ q ≤ m := by simpa using r2.1
        have c3 : 0 < m := by simpa using r3.1
        obtain ⟨b, hb, rfl⟩ := den_ptr hx
        refine ⟨_, _, r3.2, mk_asl hb, fun w _ => ?_⟩
        have hmn : ¬ m.toNat = 0 := by omega
        have c2' : q ≤ (m.toNat : Int) := by omega
        have hsz : (sizeOf E).run cfg.P w = .ok iE.size w := by rw [run_sizeOf' e1, e4]
        simp only [Instr.sliceAt, Sem.run_bind, run_underlying g2, Result.andThen_ok, Instr.sliceBounds, Instr.sliceBound, asIntOf, Sem.run_pure, Instr.sureAddr, c1, c2.1, c2', and_self, if_true, hsz, hmn, if_false, Nat.sub_zero, Nat.zero_mul, add_lit0, Nat.add_zero]
      · exact h.elim
    · exact h.elim
  · exact h.elim

theorem pureOp_sound (ok : CfgOK cfg) {o : Oper} {env : Env} {a : Act} (h : pureOp cfg lk HR o env k) (hE : ∀ t, Rel ρ (env t) (a.tmps.getD t undef))
    {w0 : World} (hS : SatR cfg lk ρ F HR w0) (hR : RowShape ρ HR) :
    ∃ v x, k v ∧ Rel ρ v x ∧ ∀ w, SatR cfg lk ρ F HR w → (execOp a.eval o).run cfg.P w = .ok (.value x) w := by
  obtain ⟨dst, op, type, pos, after, guard⟩ := o
  have he := fun x => REnv.ev hE x
  unfold pureOp at h
  split at h <;> first | exact h.elim | (rename_i hop; simp only at hop; subst hop)
  · exact ⟨_, _, h, he _, fun w _ => rfl⟩
  · exact ⟨_, _, h, he _, fun w _ => rfl⟩
  · rename_i c x y
    unfold pickV at h
    split at h
    · rename_i t ht
      have hc := he c
      rw [ht] at hc
      have hc := den_ext hc
      rcases br_elim h with ⟨rfl, h⟩ | ⟨rfl, h⟩
      · exact ⟨_, _, h, he _, fun w _ => by simp [execOp, hc, asBool]⟩
      · exact ⟨_, _, h, he _, fun w _ => by simp [execOp, hc, asBool]⟩
    · exact h.elim
  · rename_i op t x y yt
    cases hn : isNilC y with
    | true => rw [hn] at h; exact told_run (nilEq_sound (env := env) h (he x) _) rfl
    | false => rw [hn] at h; exact told_run (binV_sound _ _ h (he _) (he _) _) rfl
  · exact told_run (unV_sound h (he _) _) rfl
  · exact told_run (convV_sound h (he _) _) rfl
  · exact told_run (fieldAddrV_sound h (he _) _) rfl
  · exact told_run (indexAddrV_sound ok h (he _) (he _) hR _) rfl
  · exact told_run (loadV_sound h (he _) hS) rfl
  · exact told_run (fieldV_sound h (he _) _) rfl
  · exact told_run (extractV_sound h (he _) _) rfl
  · rename_i t parts
    cases hn : isArr cfg t with
    | true => rw [hn] at h; exact told_run (buildAV_sound h hE _) rfl
    | false => rw [hn] at h; exact told_run (buildV_sound h hE _) rfl
  · exact told_run (indexV_sound h (he _) (he _) _) rfl
  · exact told_run (lookupV_sound h (he _) (he _)) rfl
  · exact told_run (entryV_sound h (he _)) rfl
  · rename_i fn first caps
    split at h
    · rename_i f
      split at h
      · rename_i hf
        have hc := cond_elim h
        have h0 := list0 (a := first) (by rw [hf]; rfl)
        have hd := noJunk_den hE caps.toList hc.1
        refine ⟨_, .func (.func f) #[] (caps.map a.eval), hc.2, .inr ?_, fun w _ => ?_⟩
        · simp only [V.den, hd]
          rw [← Array.toList_map, Array.toArray_toList]
        · simp [execOp, Instr.makeFunc, h0]
      · rename_i x hf
        have hc := cond_elim h
        have hc1 := hc.1
        simp only [Bool.and_eq_true] at hc1
        have h0 := list0 hc1.1
        obtain rfl := list1 hf
        have hj : ev env x ≠ .junk := by
          intro e
          rw [e] at hc1
          simp [noJunk] at hc1
        have hd := (he x).den hj
        refine ⟨_, .func (.func f) #[a.eval x] #[], hc.2, .inr ?_, fun w _ => ?_⟩
        · simp only [V.den, hd]
        · simp [execOp, Instr.makeFunc, h0]
      · exact h.elim
    · exact h.elim
  · rename_i x
    unfold nilV at h
    have hx := he x
    split at h
    · rename_i i o hv
      rw [hv] at hx
      obtain ⟨b, hb, e⟩ := den_ptr hx
      exact ⟨_, _, h, hx, fun w _ => by simp [execOp, e]⟩
    · rename_i i n lo m j hv
      rw [hv] at hx
      obtain ⟨ad, len, cap, hb, hn, e⟩ := den_eptr hx
      exact ⟨_, _, h, hx, fun w _ => by simp [execOp, e]⟩
    · rename_i f caps hv
      rw [hv] at hx
      have e := hx.den (by simp)
      simp only [V.den] at e
      split at e
      · injection e with e
        exact ⟨_, _, h, hx, fun w _ => by simp [execOp, ← e]⟩
      · cases e
    · rename_i f y hv
      rw [hv] at hx
      have e := hx.den (by simp)
      simp only [V.den] at e
      split at e
      · injection e with e
        exact ⟨_, _, h, hx, fun w _ => by simp [execOp, ← e]⟩
      · cases e
    · exact h.elim
  · rename_i t x lo hi mx
    split at h
    · rename_i lo' hi' h1 h2
      obtain ⟨p1, p2⟩ := optInt_spec hE h1
      obtain ⟨q1, q2⟩ := optInt_spec hE h2
      exact told_run (sliceV_sound ok h (he _) hR _ p1 p2 q1 q2) rfl
    · rename_i mo lo' hi' h1 h2
      obtain ⟨p1, p2⟩ := optInt_spec hE h1
      obtain ⟨q1, q2⟩ := optInt_spec hE h2
      split at h
      · rename_i m hm
        have hmx := he mo
        unfold natOf at hm
        split at hm
        · rename_i kd p hp
          injection hm with hm
          subst hm
          rw [hp] at hmx
          have hmv := den_ext hmx
          refine told_run (sliceA_sound (kd := kd) h (he _) _ p2 q1) ?_
          simp [execOp, hmv]
        · cases hm
      · exact h.elim
    · exact h.elim
  · rename_i c
    split at h
    · rename_i b hb
      obtain ⟨callee, args, argTypes⟩ := c
      simp only at hb h
      subst hb
      unfold pureCall at h
      split at h
      · rename_i x t hargs hts
        obtain rfl := list1 hargs
        obtain rfl := list1 hts
        exact told_run (lenV_sound ok (ty := type) h (he _) hR _) (by simp [execOp, resolve, invoke, builtin])
      · rename_i x y hargs
        obtain rfl := list2 hargs
        exact told_run (maxV_sound (ts := argTypes) (ty := type) h (he _) (he _) _) (by simp [execOp, resolve, invoke, builtin])
      · rename_i x y hargs
        obtain rfl := list2 hargs
        exact told_run (minV_sound (ts := argTypes) (ty := type) h (he _) (he _) _) (by simp [execOp, resolve, invoke, builtin])
      · rename_i x y z r hargs
        split at h
        · rename_i n hn
          have hx := he x
          rw [hn] at hx
          have hx := den_ext hx
          obtain ⟨m, h1, h2⟩ := minL_sound (P := cfg.P) hE (y :: z :: r) n h
          refine told_run (m := Builtin.min_ argTypes type (args.map a.eval)) ⟨_, _, h1, .inr rfl, fun w _ => ?_⟩ (by simp [execOp, resolve, invoke, builtin])
          have hl : (args.map a.eval).toList = a.eval x :: (y :: z :: r).map a.eval := by rw [Array.toList_map, hargs]; rfl
          unfold Builtin.min_
          rw [hl, hx]
          exact h2 w
        · exact h.elim
      · exact h.elim
    · exact h.elim

end Go.Rx
