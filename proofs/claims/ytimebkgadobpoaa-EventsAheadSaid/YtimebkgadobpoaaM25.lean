/- Layer 25 (events): what its functions tell, plainly; contracts' forms. -/
import Derived.Test.YtimebkgadobpoaaM26
namespace Go.Rx

def inl (cfg : Cfg) (fn : Func) : Spec where
  tr := fun args H K => exF cfg fn args H K

theorem inl_ok {cfg : Cfg} (ok : CfgOK cfg) (hsig : ∀ g s, cfg.sigs g = some s → SpecOK cfg.P cfg.elT g s) {g : FuncId} {fn : Func}
    (hg : cfg.P.funcs[g]? = some fn) (hname : (fn.name == "runtime.NumGoroutine") = false) (hb : fn.body.isNone = false) : SpecOK cfg.P cfg.elT g (inl cfg fn) :=
  spec_of_exF ok hsig hg hname hb fun _ _ _ h => h

/-- May a call be by itself? -/
def oneM (w : Int) (e : Ev) : Bool :=
  bif decide (e.Begin < 0) then false else bif decide (e.Worker < 0) then false else bif decide (e.Worker ≥ w) then false else
  bif e.Done then (bif e.Sure then decide (e.Begin < e.End) else false) else e.End == 0

/-- A call is begun, and not ended. -/
def pendM (t : Int) (e : Ev) : Bool := decide (e.Begin ≤ t) && !(e.Done && decide (e.End ≤ t))
def ofM (w : Int) (e : Ev) : Bool := e.Worker == w

/-- The places, up to the n-th one, of what a test finds. -/
def posN (p : Ev → Bool) (l : List Ev) (n : Nat) : List Int := ((List.range n).filter fun i => p (l.getD i dEv)).map Int.ofNat
def posM (p : Ev → Bool) (l : List Ev) : List Int := posN p l l.length

theorem posN_succ (p : Ev → Bool) (l : List Ev) (n : Nat) : posN p l (n + 1) = posN p l n ++ (if p (l.getD n dEv) = true then [(n : Int)] else []) := by
  unfold posN
  rw [List.range_succ, List.filter_append, List.map_append]
  congr 1
  rw [List.filter_cons]
  by_cases h : p (l.getD n dEv) = true
  · rw [if_pos h, if_pos h]; rfl
  · rw [if_neg h, if_neg h]; rfl

theorem posN_len (p : Ev → Bool) (l : List Ev) (n : Nat) : (posN p l n).length ≤ n := by
  unfold posN
  rw [List.length_map]
  exact Nat.le_trans (List.length_filter_le _ _) (by simp)

theorem posN_mem {p : Ev → Bool} {l : List Ev} {n : Nat} {x : Int} (h : x ∈ posN p l n) : ∃ i : Nat, i < n ∧ x = (i : Int) ∧ p (l.getD i dEv) = true := by
  unfold posN at h
  obtain ⟨i, hi, rfl⟩ := List.mem_map.1 h
  obtain ⟨h1, h2⟩ := List.mem_filter.1 hi
  exact ⟨i, by simpa using h1, rfl, h2⟩

theorem posN_sorted (p : Ev → Bool) (l : List Ev) (n : Nat) : (posN p l n).Pairwise (· < ·) := by
  unfold posN
  refine List.pairwise_map.2 ?_
  refine ((List.pairwise_lt_range (n := n)).filter _).imp ?_
  intro a b h
  exact Int.ofNat_lt.2 h

/-- Is the i-th call right, by those ahead of it? -/
def okAt (w : Int) (l : List Ev) (i : Nat) : Bool :=
  oneM w (l.getD i dEv) && ((i == 0 || decide ((l.getD (i - 1) dEv).Begin < (l.getD i dEv).Begin)) &&
    (List.range i).all fun k => !((l.getD k dEv).Worker == (l.getD i dEv).Worker) || aheadM (l.getD k dEv) (l.getD i dEv))

def rightB (w : Int) (l : List Ev) : Bool := (List.range l.length).all (okAt w l)

def lastN (l : List Ev) : Nat → Int
  | 0 => (l.getD 0 dEv).Begin
  | n + 1 => let m := max (lastN l n) (l.getD n dEv).Begin; if (l.getD n dEv).Done = true then max m (l.getD n dEv).End else m
def lastM (l : List Ev) : Int := if l.length = 0 then 0 else lastN l l.length

/-! Contracts' forms. -/
def wevS (f : Int → Ev → Bool) : Spec where
  tr := fun args H K => match args, H with
    | [.ext (.int .i64 w), a], [] => match evOf a with
      | some a => K (vb (f w a)) []
      | none => False
    | _, _ => False

theorem wevS_elim {f : Int → Ev → Bool} {args : List V} {H : Heap} {K : V → Heap → Prop} (h : (wevS f).tr args H K) : ∃ w a, args = [vi w, evV a] ∧ H = [] ∧ K (vb (f w a)) [] := by
  unfold wevS at h
  simp only at h
  split at h
  · split at h
    · rename_i a ha
      exact ⟨_, a, by rw [evOf_spec ha]; rfl, rfl, h⟩
    · exact h.elim
  · exact h.elim

/-- A test of a call by a number that it has caught. -/
def boxS (f : Int → Ev → Bool) : Spec where
  tr := fun args H K => match args, H with
    | [a, .ptr 0 0], [.cells T [.ext (.int .i64 t)]] => match evOf a with
      | some a => K (vb (f t a)) [.cells T [.ext (.int .i64 t)]]
      | none => False
    | _, _ => False

theorem boxS_elim {f : Int → Ev → Bool} {args : List V} {H : Heap} {K : V → Heap → Prop} (h : (boxS f).tr args H K) : ∃ t a T, args = [evV a, .ptr 0 0] ∧ H = [.cells T [vi t]] ∧ K (vb (f t a)) [.cells T [vi t]] := by
  unfold boxS at h
  simp only at h
  split at h
  · split at h
    · rename_i a ha
      exact ⟨_, a, _, by rw [evOf_spec ha], rfl, h⟩
    · exact h.elim
  · exact h.elim

/-- A row of calls and a number: a new row of numbers. -/
def rowsS (f : Int → List Ev → List Int) : Spec where
  tr := fun args H K => match args, H with
    | [.row 0, .ext (.int .i64 t)], [.row 3 l true] => List.length l ≤ 1048576 ∧ K (.row 1) [.row 3 l true, .row 0 (f t l) false]
    | _, _ => False

theorem rowsS_elim {f : Int → List Ev → List Int} {args : List V} {H : Heap} {K : V → Heap → Prop} (h : (rowsS f).tr args H K) :
    ∃ (t : Int) (l : List Ev), args = [.row 0, vi t] ∧ H = [.row 3 l true] ∧ l.length ≤ 1048576 ∧ K (.row 1) [.row 3 l true, .row 0 (f t l) false] := by
  unfold rowsS at h
  simp only at h
  split at h
  · exact ⟨_, _, rfl, rfl, h⟩
  · exact h.elim

/-- A number and a row of calls: whether it is so. -/
def rowBS (f : Int → List Ev → Bool) : Spec where
  tr := fun args H K => match args, H with
    | [.ext (.int .i64 t), .row 0], [.row 3 l true] => List.length l ≤ 1048576 ∧ K (vb (f t l)) [.row 3 l true]
    | _, _ => False

theorem rowBS_elim {f : Int → List Ev → Bool} {args : List V} {H : Heap} {K : V → Heap → Prop} (h : (rowBS f).tr args H K) :
    ∃ (t : Int) (l : List Ev), args = [vi t, .row 0] ∧ H = [.row 3 l true] ∧ l.length ≤ 1048576 ∧ K (vb (f t l)) [.row 3 l true] := by
  unfold rowBS at h
  simp only at h
  split at h
  · exact ⟨_, _, rfl, rfl, h⟩
  · exact h.elim

def rowBS2 (f : Int → List Ev → Bool) : Spec where
  tr := fun args H K => match args, H with
    | [.row 0, .ext (.int .i64 t)], [.row 3 l true] => List.length l ≤ 1048576 ∧ K (vb (f t l)) [.row 3 l true]
    | _, _ => False

theorem rowBS2_elim {f : Int → List Ev → Bool} {args : List V} {H : Heap} {K : V → Heap → Prop} (h : (rowBS2 f).tr args H K) :
    ∃ (t : Int) (l : List Ev), args = [.row 0, vi t] ∧ H = [.row 3 l true] ∧ l.length ≤ 1048576 ∧ K (vb (f t l)) [.row 3 l true] := by
  unfold rowBS2 at h
  simp only at h
  split at h
  · exact ⟨_, _, rfl, rfl, h⟩
  · exact h.elim

def rowIS (f : List Ev → Int) : Spec where
  tr := fun args H K => match args, H with
    | [.row 0], [.row 3 l true] => List.length l ≤ 1048576 ∧ K (vi (f l)) [.row 3 l true]
    | _, _ => False

theorem rowIS_elim {f : List Ev → Int} {args : List V} {H : Heap} {K : V → Heap → Prop} (h : (rowIS f).tr args H K) :
    ∃ (l : List Ev), args = [.row 0] ∧ H = [.row 3 l true] ∧ l.length ≤ 1048576 ∧ K (vi (f l)) [.row 3 l true] := by
  unfold rowIS at h
  simp only at h
  split at h
  · exact ⟨_, rfl, rfl, h⟩
  · exact h.elim

/-- The places of what a function that has caught a number finds. -/
def placesS : Spec where
  tr := fun args H K => match args, H with
    | [.row 0, .fn 34 [.ptr 1 0]], [.row 3 l true, .cells T [.ext (.int .i64 t)]] => List.length l ≤ 1048576 ∧ K (.row 2) [.row 3 l true, .cells T [.ext (.int .i64 t)], .row 0 (posM (pendM t) l) false]
    | [.row 0, .fn 37 [.ptr 1 0]], [.row 3 l true, .cells T [.ext (.int .i64 t)]] => List.length l ≤ 1048576 ∧ K (.row 2) [.row 3 l true, .cells T [.ext (.int .i64 t)], .row 0 (posM (ofM t) l) false]
    | _, _ => False

theorem placesS_elim {args : List V} {H : Heap} {K : V → Heap → Prop} (h : placesS.tr args H K) : ∃ (l : List Ev) (T : TypeId) (t : Int), H = [.row 3 l true, .cells T [vi t]] ∧ l.length ≤ 1048576 ∧
    ((args = [.row 0, .fn 34 [.ptr 1 0]] ∧ K (.row 2) [.row 3 l true, .cells T [vi t], .row 0 (posM (pendM t) l) false]) ∨
     (args = [.row 0, .fn 37 [.ptr 1 0]] ∧ K (.row 2) [.row 3 l true, .cells T [vi t], .row 0 (posM (ofM t) l) false])) := by
  unfold placesS at h
  simp only at h
  split at h
  · exact ⟨_, _, _, rfl, h.1, .inl ⟨rfl, h.2⟩⟩
  · exact ⟨_, _, _, rfl, h.1, .inr ⟨rfl, h.2⟩⟩
  · exact h.elim
end Go.Rx
