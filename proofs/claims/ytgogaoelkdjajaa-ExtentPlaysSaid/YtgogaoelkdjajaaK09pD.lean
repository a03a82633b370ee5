/- What the row's text of this claim stands on, part 4: the symbolic executor, contracts of the program's functions, plain facts. No condition. -/
import Derived.Test.YtgogaoelkdjajaaK09pC
section
/- Contracts. -/
namespace Go.Rx
open Go.Proofs
set_option maxRecDepth 100000
set_option maxHeartbeats 4000000
/-! assart/extent.there -/
def tr_extent_there (m_ : T_layout_Layout → Int → Option (Bool)) (args : List V) (H : Heap) (K : V → Heap → Prop) : Prop :=
  aC args fun a0 r => aC r fun a1 r => aN r <| aAgg a0 fun c0 => d_layout_Layout c0 fun l2 => aInt a1 fun p => aN H <| So (m_ l2 p) fun x => K (vb (x)) []
def sp_extent_there (m_ : T_layout_Layout → Int → Option (Bool)) : Spec := ⟨tr_extent_there m_, (true : Bool)⟩

/-! assart/extent.Kind -/
def tr_extent_Kind (m_ : Nat → (List Int) → T_layout_Layout → Int → Option (Int)) (args : List V) (H : Heap) (K : V → Heap → Prop) : Prop :=
  aC args fun a0 r => aC r fun a1 r => aC r fun a2 r => aN r <| aPtr 0 a0 <| aAgg a1 fun c1 => d_layout_Layout c1 fun l2 => aInt a2 fun p => aC H fun b0 r => aC r fun b1 r => aN r <| bView 1 b0 fun ws cur xs => bRow 0 true b1 fun (l : List Int) => ws = l ∧ xs.length ≤ 2 ∧ So (m_ (ws.length) cur l2 p) fun x => K (vi (x)) [.pk 0 [ws, cur] xs [.row 1], .row 0 l true]
def sp_extent_Kind (m_ : Nat → (List Int) → T_layout_Layout → Int → Option (Int)) : Spec := ⟨tr_extent_Kind m_, (true : Bool)⟩

/-! assart/extent.all -/
def tr_extent_all (m_ : T_layout_Layout → Int → Int → Option (Bool)) (args : List V) (H : Heap) (K : V → Heap → Prop) : Prop :=
  aC args fun a0 r => aC r fun a1 r => aC r fun a2 r => aN r <| aAgg a0 fun c0 => d_layout_Layout c0 fun l2 => aInt a1 fun p => aInt a2 fun n => aN H <| So (m_ l2 p n) fun x => K (vb (x)) []
def sp_extent_all (m_ : T_layout_Layout → Int → Int → Option (Bool)) : Spec := ⟨tr_extent_all m_, (true : Bool)⟩

/-! assart/extent.open -/
def tr_extent_open (m_ : Nat → (List Int) → T_layout_Layout → Int → Int → Option (Bool)) (args : List V) (H : Heap) (K : V → Heap → Prop) : Prop :=
  aC args fun a0 r => aC r fun a1 r => aC r fun a2 r => aC r fun a3 r => aN r <| aPtr 0 a0 <| aAgg a1 fun c1 => d_layout_Layout c1 fun l2 => aInt a2 fun p => aInt a3 fun n => aC H fun b0 r => aC r fun b1 r => aN r <| bView 1 b0 fun ws cur xs => bRow 0 true b1 fun (l : List Int) => ws = l ∧ xs.length ≤ 2 ∧ So (m_ (ws.length) cur l2 p n) fun x => K (vb (x)) [.pk 0 [ws, cur] xs [.row 1], .row 0 l true]
def sp_extent_open (m_ : Nat → (List Int) → T_layout_Layout → Int → Int → Option (Bool)) : Spec := ⟨tr_extent_open m_, (true : Bool)⟩

/-! assart/extent.set -/
def tr_extent_set (m_ : Nat → (List Int) → T_layout_Layout → Int → Int → Int → Option ((List Int))) (args : List V) (H : Heap) (K : V → Heap → Prop) : Prop :=
  aC args fun a0 r => aC r fun a1 r => aC r fun a2 r => aC r fun a3 r => aC r fun a4 r => aN r <| aPtr 0 a0 <| aAgg a1 fun c1 => d_layout_Layout c1 fun l2 => aInt a2 fun p => aInt a3 fun kindv => aInt a4 fun count => aC H fun b0 r => aC r fun b1 r => aN r <| bView 1 b0 fun ws cur xs => bRow 0 true b1 fun (l : List Int) => ws = l ∧ xs.length ≤ 2 ∧ So (m_ (ws.length) cur l2 p kindv count) fun x => K (.tup []) [.pk 0 [ws, x] xs [.row 1], .row 0 l true]
def sp_extent_set (m_ : Nat → (List Int) → T_layout_Layout → Int → Int → Int → Option ((List Int))) : Spec := ⟨tr_extent_set m_, (true : Bool)⟩

/-! assart/extent.Find$1 -/
def tr_extent_Find_1 (m_ : Nat → (List Int) → Int → T_layout_Layout → Option (Bool)) (args : List V) (H : Heap) (K : V → Heap → Prop) : Prop :=
  aC args fun a0 r => aC r fun a1 r => aC r fun a2 r => aN r <| aInt a0 fun p => aPtr 0 a1 <| aPtr 1 a2 <| aC H fun b0 r => aC r fun b1 r => aC r fun b2 r => aC r fun b3 r => aN r <| bCells b0 fun U c0 => aC c0 fun d0_0 r => aPtr 2 d0_0 <| aN r <| bCells b1 fun U2 c1 => d_layout_Layout c1 fun l2 => bView 3 b2 fun ws cur xs => bRow 0 true b3 fun (l : List Int) => ws = l ∧ xs.length ≤ 2 ∧ So (m_ (ws.length) cur p l2) fun x => K (vb (x)) [.cells U [.ptr 2 0], .cells U2 (e_layout_Layout l2), .pk 0 [ws, cur] xs [.row 3], .row 0 l true]
def sp_extent_Find_1 (m_ : Nat → (List Int) → Int → T_layout_Layout → Option (Bool)) : Spec := ⟨tr_extent_Find_1 m_, (true : Bool)⟩

/-! assart/extent.Find$2 -/
def tr_extent_Find_2 (m_ : Int → Option (Bool)) (args : List V) (H : Heap) (K : V → Heap → Prop) : Prop :=
  aC args fun a0 r => aN r <| aInt a0 fun p0 => aN H <| So (m_ p0) fun x => K (vb (x)) []
def sp_extent_Find_2 (m_ : Int → Option (Bool)) : Spec := ⟨tr_extent_Find_2 m_, (true : Bool)⟩

/-! assart/extent.fit -/
def tr_extent_fit_1 (m_ : Nat → (List Int) → T_layout_Layout → Int → Int → T_layout_Layout → Option (Int)) (args : List V) (H : Heap) (K : V → Heap → Prop) : Prop :=
  aC args fun a0 r => aC r fun a1 r => aC r fun a2 r => aC r fun a3 r => aC r fun a4 r => aN r <| aPtr 0 a0 <| aAgg a1 fun c1 => d_layout_Layout c1 fun l2 => aInt a2 fun n => aInt a3 fun step => aFn 110 a4 fun fc4 => aC fc4 fun fp4_0 r => aPtr 1 fp4_0 <| aC r fun fp4_1 r => aPtr 2 fp4_1 <| aN r <| aC H fun b0 r => aC r fun b1 r => aC r fun b2 r => aC r fun b3 r => aN r <| bView 3 b0 fun ws cur xs => bCells b1 fun U c1 => aC c1 fun d1_0 r => aPtr 0 d1_0 <| aN r <| bCells b2 fun U2 c2 => d_layout_Layout c2 fun l3 => bRow 0 true b3 fun (l : List Int) => ws = l ∧ xs.length ≤ 2 ∧ So (m_ (ws.length) cur l2 n step l3) fun x => K (vi (x)) [.pk 0 [ws, cur] xs [.row 3], .cells U [.ptr 0 0], .cells U2 (e_layout_Layout l3), .row 0 l true]
def sp_extent_fit_1 (m_ : Nat → (List Int) → T_layout_Layout → Int → Int → T_layout_Layout → Option (Int)) : Spec := ⟨tr_extent_fit_1 m_, (true : Bool)⟩

/-! assart/extent.fit -/
def tr_extent_fit_2 (m_ : Nat → (List Int) → T_layout_Layout → Int → Int → Option (Int)) (args : List V) (H : Heap) (K : V → Heap → Prop) : Prop :=
  aC args fun a0 r => aC r fun a1 r => aC r fun a2 r => aC r fun a3 r => aC r fun a4 r => aN r <| aPtr 0 a0 <| aAgg a1 fun c1 => d_layout_Layout c1 fun l2 => aInt a2 fun n => aInt a3 fun step => aFn 113 a4 fun fc4 => aN fc4 <| aC H fun b0 r => aC r fun b1 r => aN r <| bView 1 b0 fun ws cur xs => bRow 0 true b1 fun (l : List Int) => ws = l ∧ xs.length ≤ 2 ∧ So (m_ (ws.length) cur l2 n step) fun x => K (vi (x)) [.pk 0 [ws, cur] xs [.row 1], .row 0 l true]
def sp_extent_fit_2 (m_ : Nat → (List Int) → T_layout_Layout → Int → Int → Option (Int)) : Spec := ⟨tr_extent_fit_2 m_, (true : Bool)⟩

/-! assart/extent.Find -/
def tr_extent_Find (m_ : Nat → (List Int) → T_layout_Layout → Int → Int → Option (Int)) (args : List V) (H : Heap) (K : V → Heap → Prop) : Prop :=
  aC args fun a0 r => aC r fun a1 r => aC r fun a2 r => aC r fun a3 r => aN r <| aPtr 0 a0 <| aAgg a1 fun c1 => d_layout_Layout c1 fun l2 => aInt a2 fun n => aInt a3 fun step => aC H fun b0 r => aC r fun b1 r => aN r <| bView 1 b0 fun ws cur xs => bRow 0 true b1 fun (l : List Int) => ws = l ∧ xs.length ≤ 2 ∧ So (m_ (ws.length) cur l2 n step) fun x => K (vi (x)) [.pk 0 [ws, cur] xs [.row 1], .row 0 l true]
def sp_extent_Find (m_ : Nat → (List Int) → T_layout_Layout → Int → Int → Option (Int)) : Spec := ⟨tr_extent_Find m_, (true : Bool)⟩

/-! assart/extent.Take -/
def tr_extent_Take (m_ : Nat → (List Int) → T_layout_Layout → Int → Int → Int → Option (Bool × (List Int))) (args : List V) (H : Heap) (K : V → Heap → Prop) : Prop :=
  aC args fun a0 r => aC r fun a1 r => aC r fun a2 r => aC r fun a3 r => aC r fun a4 r => aN r <| aPtr 0 a0 <| aAgg a1 fun c1 => d_layout_Layout c1 fun l2 => aInt a2 fun p => aInt a3 fun n => aInt a4 fun kindv => aC H fun b0 r => aC r fun b1 r => aN r <| bView 1 b0 fun ws cur xs => bRow 0 true b1 fun (l : List Int) => ws = l ∧ xs.length ≤ 2 ∧ So (m_ (ws.length) cur l2 p n kindv) fun x => K (vb (x.1)) [.pk 0 [ws, x.2] xs [.row 1], .row 0 l true]
def sp_extent_Take (m_ : Nat → (List Int) → T_layout_Layout → Int → Int → Int → Option (Bool × (List Int))) : Spec := ⟨tr_extent_Take m_, (true : Bool)⟩

/-! assart/extent.length -/
def tr_extent_length (m_ : Nat → (List Int) → T_layout_Layout → Int → Option (Int)) (args : List V) (H : Heap) (K : V → Heap → Prop) : Prop :=
  aC args fun a0 r => aC r fun a1 r => aC r fun a2 r => aN r <| aPtr 0 a0 <| aAgg a1 fun c1 => d_layout_Layout c1 fun l2 => aInt a2 fun p => aC H fun b0 r => aC r fun b1 r => aN r <| bView 1 b0 fun ws cur xs => bRow 0 true b1 fun (l : List Int) => ws = l ∧ xs.length ≤ 2 ∧ So (m_ (ws.length) cur l2 p) fun x => K (vi (x)) [.pk 0 [ws, cur] xs [.row 1], .row 0 l true]
def sp_extent_length (m_ : Nat → (List Int) → T_layout_Layout → Int → Option (Int)) : Spec := ⟨tr_extent_length m_, (true : Bool)⟩

/-! assart/extent.Drop -/
def tr_extent_Drop (m_ : Nat → (List Int) → T_layout_Layout → Int → Option (Int × (List Int))) (args : List V) (H : Heap) (K : V → Heap → Prop) : Prop :=
  aC args fun a0 r => aC r fun a1 r => aC r fun a2 r => aN r <| aPtr 0 a0 <| aAgg a1 fun c1 => d_layout_Layout c1 fun l2 => aInt a2 fun p => aC H fun b0 r => aC r fun b1 r => aN r <| bView 1 b0 fun ws cur xs => bRow 0 true b1 fun (l : List Int) => ws = l ∧ xs.length ≤ 2 ∧ So (m_ (ws.length) cur l2 p) fun x => K (vi (x.1)) [.pk 0 [ws, x.2] xs [.row 1], .row 0 l true]
def sp_extent_Drop (m_ : Nat → (List Int) → T_layout_Layout → Int → Option (Int × (List Int))) : Spec := ⟨tr_extent_Drop m_, (true : Bool)⟩

/-! assart/extent.First -/
def tr_extent_First (m_ : Nat → (List Int) → T_layout_Layout → Int → Option (Int)) (args : List V) (H : Heap) (K : V → Heap → Prop) : Prop :=
  aC args fun a0 r => aC r fun a1 r => aC r fun a2 r => aN r <| aPtr 0 a0 <| aAgg a1 fun c1 => d_layout_Layout c1 fun l2 => aInt a2 fun p => aC H fun b0 r => aC r fun b1 r => aN r <| bView 1 b0 fun ws cur xs => bRow 0 true b1 fun (l : List Int) => ws = l ∧ xs.length ≤ 2 ∧ So (m_ (ws.length) cur l2 p) fun x => K (vi (x)) [.pk 0 [ws, cur] xs [.row 1], .row 0 l true]
def sp_extent_First (m_ : Nat → (List Int) → T_layout_Layout → Int → Option (Int)) : Spec := ⟨tr_extent_First m_, (true : Bool)⟩

/-! assart/extent.Used -/
def tr_extent_Used (m_ : Nat → (List Int) → T_layout_Layout → Option (Int)) (args : List V) (H : Heap) (K : V → Heap → Prop) : Prop :=
  aC args fun a0 r => aC r fun a1 r => aN r <| aPtr 0 a0 <| aAgg a1 fun c1 => d_layout_Layout c1 fun l2 => aC H fun b0 r => aC r fun b1 r => aN r <| bView 1 b0 fun ws cur xs => bRow 0 true b1 fun (l : List Int) => ws = l ∧ xs.length ≤ 2 ∧ So (m_ (ws.length) cur l2) fun x => K (vi (x)) [.pk 0 [ws, cur] xs [.row 1], .row 0 l true]
def sp_extent_Used (m_ : Nat → (List Int) → T_layout_Layout → Option (Int)) : Spec := ⟨tr_extent_Used m_, (true : Bool)⟩

/-! assart/extent.Trim -/
def tr_extent_Trim (m_ : Nat → (List Int) → T_layout_Layout → Option (Int × (List Int))) (args : List V) (H : Heap) (K : V → Heap → Prop) : Prop :=
  aC args fun a0 r => aC r fun a1 r => aN r <| aPtr 0 a0 <| aAgg a1 fun c1 => d_layout_Layout c1 fun l2 => aC H fun b0 r => aC r fun b1 r => aN r <| bView 1 b0 fun ws cur xs => bRow 0 true b1 fun (l : List Int) => ws = l ∧ xs.length ≤ 2 ∧ So (m_ (ws.length) cur l2) fun x => K (vi (x.1)) [.pk 0 [ws, x.2] xs [.row 1], .row 0 l true]
def sp_extent_Trim (m_ : Nat → (List Int) → T_layout_Layout → Option (Int × (List Int))) : Spec := ⟨tr_extent_Trim m_, (true : Bool)⟩

noncomputable def cfg_extent_there (m_layout_Layout_Config : T_layout_Layout → Option (T_api_Config)) : Cfg := { cfgB with
  sigs := (sigC 27 (sp_layout_Layout_Config m_layout_Layout_Config) sigN) }

noncomputable def cfg_extent_Kind (m_extent_there : T_layout_Layout → Int → Option (Bool)) (m_layout_Layout_Kind : T_layout_Layout → Int → Option (Int)) : Cfg := { cfgB with
  sigs := (sigC 115 (sp_extent_there m_extent_there) (sigC 99 (sp_layout_Layout_Kind m_layout_Layout_Kind) (sigC 90 rdS sigN))) }

noncomputable def cfg_extent_all (m_extent_there : T_layout_Layout → Int → Option (Bool)) (m_layout_Layout_Config : T_layout_Layout → Option (T_api_Config)) : Cfg := { cfgB with
  sigs := (sigC 115 (sp_extent_there m_extent_there) (sigC 27 (sp_layout_Layout_Config m_layout_Layout_Config) sigN)) }

noncomputable def cfg_extent_open (m_extent_all : T_layout_Layout → Int → Int → Option (Bool)) (m_extent_Kind : Nat → (List Int) → T_layout_Layout → Int → Option (Int)) : Cfg := { cfgB with
  sigs := (sigC 146 (sp_extent_all m_extent_all) (sigC 62 (sp_extent_Kind m_extent_Kind) sigN)),
  keep := fun r => match r with | 4 => some [(0, none), (2, none), (5, none), (15, none), (16, none)] | _ => none }

noncomputable def cfg_extent_set (m_layout_Layout_Kind : T_layout_Layout → Int → Option (Int)) (m_layout_Layout_Count : T_layout_Layout → Int → Option (Int)) (m_layout_Layout_Bits : T_layout_Layout → Int → Option (Int)) : Cfg := { cfgB with
  sigs := (sigC 99 (sp_layout_Layout_Kind m_layout_Layout_Kind) (sigC 91 wrS (sigC 147 (sp_layout_Layout_Count m_layout_Layout_Count) (sigC 148 (sp_layout_Layout_Bits m_layout_Layout_Bits) sigN)))) }

noncomputable def cfg_extent_Find_1 (m_chunk_Of : Int → Option (Int)) (m_chunk_Mapped : Nat → (List Int) → T_layout_Layout → Int → Option (Bool)) : Cfg := { cfgB with
  sigs := (sigC 111 (sp_chunk_Of m_chunk_Of) (sigC 67 (sp_chunk_Mapped m_chunk_Mapped) sigN)),
  plan := fun r => match r with | 1 => some (List.range 6, 16) | _ => none }

noncomputable def cfg_extent_Find_2  : Cfg := { cfgB with
  sigs := sigN }

noncomputable def cfg_extent_fit_1 (m_extent_all : T_layout_Layout → Int → Int → Option (Bool)) (m_extent_Kind : Nat → (List Int) → T_layout_Layout → Int → Option (Int)) (m_extent_Find_1 : Nat → (List Int) → Int → T_layout_Layout → Option (Bool)) : Cfg := { cfgB with
  sigs := (sigC 146 (sp_extent_all m_extent_all) (sigC 62 (sp_extent_Kind m_extent_Kind) (sigC 110 (sp_extent_Find_1 m_extent_Find_1) sigN))),
  keep := fun r => match r with | 2 => some [(0, none), (2, none), (3, none), (4, none), (6, none), (11, none)] | 4 => some [(0, none), (2, none), (3, none), (4, none), (6, none), (11, none), (12, none)] | _ => none }

noncomputable def cfg_extent_fit_2 (m_extent_all : T_layout_Layout → Int → Int → Option (Bool)) (m_extent_Kind : Nat → (List Int) → T_layout_Layout → Int → Option (Int)) (m_extent_Find_2 : Int → Option (Bool)) : Cfg := { cfgB with
  sigs := (sigC 146 (sp_extent_all m_extent_all) (sigC 62 (sp_extent_Kind m_extent_Kind) (sigC 113 (sp_extent_Find_2 m_extent_Find_2) sigN))),
  keep := fun r => match r with | 2 => some [(0, none), (2, none), (3, none), (4, none), (6, none), (11, none)] | 4 => some [(0, none), (2, none), (3, none), (4, none), (6, none), (11, none), (12, none)] | _ => none }

noncomputable def cfg_extent_Find (m_extent_open : Nat → (List Int) → T_layout_Layout → Int → Int → Option (Bool)) (m_extent_Find_1 : Nat → (List Int) → Int → T_layout_Layout → Option (Bool)) (m_extent_fit_1 : Nat → (List Int) → T_layout_Layout → Int → Int → T_layout_Layout → Option (Int)) (m_extent_fit_2 : Nat → (List Int) → T_layout_Layout → Int → Int → Option (Int)) (m_extent_Find_2 : Int → Option (Bool)) : Cfg := { cfgB with
  sigs := (sigC 109 (sp_extent_open m_extent_open) (sigC 110 (sp_extent_Find_1 m_extent_Find_1) (sigC 112 (altP 4 113 (sp_extent_fit_2 m_extent_fit_2) (sp_extent_fit_1 m_extent_fit_1)) (sigC 113 (sp_extent_Find_2 m_extent_Find_2) sigN)))) }

noncomputable def cfg_extent_Take (m_extent_open : Nat → (List Int) → T_layout_Layout → Int → Int → Option (Bool)) (m_chunk_Ensure : Nat → (List Int) → T_layout_Layout → Int → Int → Option (Int × (List Int))) (m_extent_set : Nat → (List Int) → T_layout_Layout → Int → Int → Int → Option ((List Int))) : Cfg := { cfgB with
  sigs := (sigC 109 (sp_extent_open m_extent_open) (sigC 26 (sp_chunk_Ensure m_chunk_Ensure) (sigC 114 (sp_extent_set m_extent_set) sigN))),
  keep := fun r => match r with | 9 => some [(0, none), (2, none), (3, none), (6, none), (12, none)] | _ => none }

noncomputable def cfg_extent_length (m_extent_Kind : Nat → (List Int) → T_layout_Layout → Int → Option (Int)) : Cfg := { cfgB with
  sigs := (sigC 62 (sp_extent_Kind m_extent_Kind) sigN),
  keep := fun r => match r with | 3 => some [(0, none), (2, none), (4, none), (7, none)] | _ => none }

noncomputable def cfg_extent_Drop (m_extent_Kind : Nat → (List Int) → T_layout_Layout → Int → Option (Int)) (m_extent_length : Nat → (List Int) → T_layout_Layout → Int → Option (Int)) (m_extent_set : Nat → (List Int) → T_layout_Layout → Int → Int → Int → Option ((List Int))) : Cfg := { cfgB with
  sigs := (sigC 62 (sp_extent_Kind m_extent_Kind) (sigC 116 (sp_extent_length m_extent_length) (sigC 114 (sp_extent_set m_extent_set) sigN))),
  keep := fun r => match r with | 6 => some [(0, none), (2, none), (4, none), (8, none), (24, none), (25, none)] | _ => none }

noncomputable def cfg_extent_First (m_extent_Kind : Nat → (List Int) → T_layout_Layout → Int → Option (Int)) : Cfg := { cfgB with
  sigs := (sigC 62 (sp_extent_Kind m_extent_Kind) sigN),
  keep := fun r => match r with | 3 => some [(0, none), (2, none), (4, none)] | _ => none }

noncomputable def cfg_extent_Used (m_layout_Layout_Config : T_layout_Layout → Option (T_api_Config)) (m_extent_Kind : Nat → (List Int) → T_layout_Layout → Int → Option (Int)) : Cfg := { cfgB with
  sigs := (sigC 27 (sp_layout_Layout_Config m_layout_Layout_Config) (sigC 62 (sp_extent_Kind m_extent_Kind) sigN)),
  keep := fun r => match r with | 3 => some [(0, none), (3, none), (5, none), (9, none), (10, none)] | _ => none }

noncomputable def cfg_extent_Trim (m_layout_Layout_Chunks : T_layout_Layout → Option (Int)) (m_chunk_Pages : T_layout_Layout → Int → Option (Int × Int)) (m_extent_open : Nat → (List Int) → T_layout_Layout → Int → Int → Option (Bool)) (m_chunk_Unmap : Nat → (List Int) → T_layout_Layout → Int → Option (Bool × (List Int))) : Cfg := { cfgB with
  sigs := (sigC 30 (sp_layout_Layout_Chunks m_layout_Layout_Chunks) (sigC 23 (sp_chunk_Pages m_chunk_Pages) (sigC 109 (sp_extent_open m_extent_open) (sigC 25 (sp_chunk_Unmap m_chunk_Unmap) sigN)))),
  keep := fun r => match r with | 3 => some [(0, none), (3, none), (5, none), (10, none), (11, none)] | _ => none }

theorem nf_extent_there (m_layout_Layout_Config : T_layout_Layout → Option (T_api_Config)) (l2 : T_layout_Layout) (p : Int) (K : V → Heap → Prop) : (exF (cfg_extent_there m_layout_Layout_Config) Try.f115 [.agg (e_layout_Layout l2), vi p] [] K) = (
    br (Decidable.decide (p ≥ 0)) (So (m_layout_Layout_Config l2) (fun (y0 : T_api_Config) => (K (vb (Decidable.decide (p < T_api_Config.Pages y0))) []))) (K (vb (Bool.false)) [])) := by
  kernel_rfl

theorem nf_extent_Kind (m_extent_there : T_layout_Layout → Int → Option (Bool)) (m_layout_Layout_Kind : T_layout_Layout → Int → Option (Int)) (ws : List Int) (cur : List Int) (xs : List Value) (l2 : T_layout_Layout) (p : Int) (K : V → Heap → Prop) : (exF (cfg_extent_Kind m_extent_there m_layout_Layout_Kind) Try.f62 [.ptr 0 0, .agg (e_layout_Layout l2), vi p] [.pk 0 [ws, cur] xs [.row 1], .row 0 ws true] K) = (
    So (m_extent_there l2 p) (fun (y0 : Bool) => (br (!y0) (K (vi (-1)) [.pk 0 [ws, cur] (xs) [.row 1], .row 0 (ws : List (Int)) Bool.true]) (So (m_layout_Layout_Kind l2 p) (fun (y1 : Int) => (((ws = ws) ∧ (((List.length xs ≤ 2) ∧ (Req (inR y1 (List.length ws)) (K (vi (rd cur y1)) [.pk 0 [ws, cur] (xs) [.row 1], .row 0 (ws : List (Int)) Bool.true]))))))))))) := by
  kernel_rfl

theorem nf_extent_all (m_extent_there : T_layout_Layout → Int → Option (Bool)) (m_layout_Layout_Config : T_layout_Layout → Option (T_api_Config)) (l2 : T_layout_Layout) (p : Int) (n : Int) (K : V → Heap → Prop) : (exF (cfg_extent_all m_extent_there m_layout_Layout_Config) Try.f146 [.agg (e_layout_Layout l2), vi p, vi n] [] K) = (
    So (m_extent_there l2 p) (fun (y0 : Bool) => (br (y0) (br (Decidable.decide (n ≥ 1)) (So (m_layout_Layout_Config l2) (fun (y1 : T_api_Config) => (K (vb (Decidable.decide (n ≤ IntKind.wrap IntKind.i64 (T_api_Config.Pages y1 - p)))) []))) (K (vb (Bool.false)) [])) (K (vb (Bool.false)) [])))) := by
  kernel_rfl

theorem nf_extent_open_L1 (m_extent_all : T_layout_Layout → Int → Int → Option (Bool)) (m_extent_Kind : Nat → (List Int) → T_layout_Layout → Int → Option (Int)) (ws : List Int) (cur : List Int) (xs : List Value) (l2 : T_layout_Layout) (p : Int) (n : Int) (t16 : Int) (K : V → Heap → Prop) (J1 : Env → Heap → Prop) : (ex (cfg_extent_open m_extent_all m_extent_Kind) (⟨27, 2⟩ : Cx) (at_ (bodyOf Try.f109) [1, 1, 0, 1, 0, 0]) (mkEnv [(0, .ptr 0 0), (2, vi (p)), (5, .ptr 2 0), (15, vi (n)), (16, vi (t16))]) [.pk 0 [ws, cur] (xs) [.row 1], .row 0 (ws : List (Int)) Bool.true, .cells 28 (e_layout_Layout l2)] (roundK (cfg_extent_open m_extent_all m_extent_Kind) (⟨27, 2⟩ : Cx) (at_ (bodyOf Try.f109) [1, 1, 0, 1, 0, 0]) (contK (cfg_extent_open m_extent_all m_extent_Kind) (⟨27, 2⟩ : Cx) (bodyOf Try.f109) [1, 1, 0, 1, 0] (retK (cfg_extent_open m_extent_all m_extent_Kind) Try.f109 2 K)) J1)) = (
    br (Decidable.decide (t16 < n)) (((ws = ws) ∧ (((List.length xs ≤ 2) ∧ (So (m_extent_Kind (List.length ws) cur l2 (IntKind.wrap IntKind.i64 (p + t16))) (fun (y0 : Int) => (br (y0 != 0) (K (vb (Bool.false)) [.pk 0 [ws, cur] (xs) [.row 1], .row 0 (ws : List (Int)) Bool.true]) (J1 (mkEnv [(0, .ptr 0 0), (2, vi (p)), (5, .ptr 2 0), (15, vi (n)), (16, vi (IntKind.wrap IntKind.i64 (t16 + 1)))]) [.pk 0 [ws, cur] (xs) [.row 1], .row 0 (ws : List (Int)) Bool.true, .cells 28 (e_layout_Layout l2)])))))))) (K (vb (Bool.true)) [.pk 0 [ws, cur] (xs) [.row 1], .row 0 (ws : List (Int)) Bool.true])) := by
  kernel_rfl

theorem nf_extent_open (m_extent_all : T_layout_Layout → Int → Int → Option (Bool)) (m_extent_Kind : Nat → (List Int) → T_layout_Layout → Int → Option (Int)) (ws : List Int) (cur : List Int) (xs : List Value) (l2 : T_layout_Layout) (p : Int) (n : Int) (K : V → Heap → Prop) : (exF (cfg_extent_open m_extent_all m_extent_Kind) Try.f109 [.ptr 0 0, .agg (e_layout_Layout l2), vi p, vi n] [.pk 0 [ws, cur] xs [.row 1], .row 0 ws true] K) = (
    So (m_extent_all l2 p n) (fun (y0 : Bool) => (br (!y0) (K (vb (Bool.false)) [.pk 0 [ws, cur] (xs) [.row 1], .row 0 (ws : List (Int)) Bool.true]) (Loop (cfg_extent_open m_extent_all m_extent_Kind) (⟨27, 2⟩ : Cx) (at_ (bodyOf Try.f109) [1, 1, 0, 1, 0, 0]) (mkEnv [(0, .ptr 0 0), (2, vi (p)), (5, .ptr 2 0), (15, vi (n)), (16, vi (0))]) [.pk 0 [ws, cur] (xs) [.row 1], .row 0 (ws : List (Int)) Bool.true, .cells 28 (e_layout_Layout l2)] (contK (cfg_extent_open m_extent_all m_extent_Kind) (⟨27, 2⟩ : Cx) (bodyOf Try.f109) [1, 1, 0, 1, 0] (retK (cfg_extent_open m_extent_all m_extent_Kind) Try.f109 2 K)))))) := by
  kernel_rfl

theorem nf_extent_set (m_layout_Layout_Kind : T_layout_Layout → Int → Option (Int)) (m_layout_Layout_Count : T_layout_Layout → Int → Option (Int)) (m_layout_Layout_Bits : T_layout_Layout → Int → Option (Int)) (ws : List Int) (cur : List Int) (xs : List Value) (l2 : T_layout_Layout) (p : Int) (kindv : Int) (count : Int) (K : V → Heap → Prop) : (exF (cfg_extent_set m_layout_Layout_Kind m_layout_Layout_Count m_layout_Layout_Bits) Try.f114 [.ptr 0 0, .agg (e_layout_Layout l2), vi p, vi kindv, vi count] [.pk 0 [ws, cur] xs [.row 1], .row 0 ws true] K) = (
    So (m_layout_Layout_Kind l2 p) (fun (y0 : Int) => (((ws = ws) ∧ (((List.length xs ≤ 2) ∧ (Req (inR y0 (List.length ws)) (So (m_layout_Layout_Count l2 p) (fun (y1 : Int) => (((ws = ws) ∧ (((List.length xs ≤ 2) ∧ (Req (inR y1 (List.length ws)) (So (m_layout_Layout_Bits l2 p) (fun (y2 : Int) => (((ws = ws) ∧ (((List.length xs ≤ 2) ∧ (Req (inR y2 (List.length ws)) (K (.tup []) [.pk 0 [ws, wr (wr (wr cur y0 kindv) y1 count) y2 0] (xs) [.row 1], .row 0 (ws : List (Int)) Bool.true])))))))))))))))))))))) := by
  kernel_rfl

theorem nf_extent_Find_1 (m_chunk_Of : Int → Option (Int)) (m_chunk_Mapped : Nat → (List Int) → T_layout_Layout → Int → Option (Bool)) (ws : List Int) (cur : List Int) (xs : List Value) (p : Int) (l2 : T_layout_Layout) (U : TypeId) (U2 : TypeId) (K : V → Heap → Prop) : (exF (cfg_extent_Find_1 m_chunk_Of m_chunk_Mapped) Try.f110 [vi p, .ptr 0 0, .ptr 1 0] [.cells U [.ptr 2 0], .cells U2 (e_layout_Layout l2), .pk 0 [ws, cur] xs [.row 3], .row 0 ws true] K) = (
    So (m_chunk_Of p) (fun (y0 : Int) => (((ws = ws) ∧ (((List.length xs ≤ 2) ∧ (So (m_chunk_Mapped (List.length ws) cur l2 y0) (fun (y1 : Bool) => (K (vb (y1)) [.cells U [.ptr 2 0], .cells U2 (e_layout_Layout l2), .pk 0 [ws, cur] (xs) [.row 3], .row 0 (ws : List (Int)) Bool.true]))))))))) := by
  kernel_rfl

theorem nf_extent_Find_2 (p0 : Int) (K : V → Heap → Prop) : (exF cfg_extent_Find_2 Try.f113 [vi p0] [] K) = (
    K (vb (Bool.true)) []) := by
  kernel_rfl

theorem nf_extent_fit_1_L2 (m_extent_all : T_layout_Layout → Int → Int → Option (Bool)) (m_extent_Kind : Nat → (List Int) → T_layout_Layout → Int → Option (Int)) (m_extent_Find_1 : Nat → (List Int) → Int → T_layout_Layout → Option (Bool)) (ws : List Int) (cur : List Int) (xs : List Value) (l2 : T_layout_Layout) (n : Int) (step : Int) (l3 : T_layout_Layout) (U : TypeId) (U2 : TypeId) (p : Int) (iv : Int) (K : V → Heap → Prop) (J1 : Env → Heap → Prop) (J2 : Env → Heap → Prop) : (ex (cfg_extent_fit_1 m_extent_all m_extent_Kind m_extent_Find_1) (⟨48, 4⟩ : Cx) (at_ (bodyOf Try.f112) [1, 0, 1, 1, 0, 0, 0, 1, 0, 0, 1, 0, 0]) (mkEnv [(0, .ptr 0 0), (2, vi (n)), (3, vi (step)), (4, .fn 110 [.ptr 1 0, .ptr 2 0]), (6, .ptr 4 0), (11, vi (p)), (12, vi (iv))]) [.pk 0 [ws, cur] (xs) [.row 3], .cells U [.ptr 0 0], .cells U2 (e_layout_Layout l3), .row 0 (ws : List (Int)) Bool.true, .cells 28 (e_layout_Layout l2)] (roundK (cfg_extent_fit_1 m_extent_all m_extent_Kind m_extent_Find_1) (⟨48, 4⟩ : Cx) (at_ (bodyOf Try.f112) [1, 0, 1, 1, 0, 0, 0, 1, 0, 0, 1, 0, 0]) (contK (cfg_extent_fit_1 m_extent_all m_extent_Kind m_extent_Find_1) (⟨48, 4⟩ : Cx) (at_ (bodyOf Try.f112) [1, 0, 1, 1, 0, 0, 0]) [1, 0, 0, 1, 0] (roundK (cfg_extent_fit_1 m_extent_all m_extent_Kind m_extent_Find_1) (⟨48, 4⟩ : Cx) (at_ (bodyOf Try.f112) [1, 0, 1, 1, 0, 0, 0]) (contK (cfg_extent_fit_1 m_extent_all m_extent_Kind m_extent_Find_1) (⟨48, 4⟩ : Cx) (bodyOf Try.f112) [1, 0, 1, 1, 0, 0] (retK (cfg_extent_fit_1 m_extent_all m_extent_Kind m_extent_Find_1) Try.f112 4 K)) J1)) J2)) = (
    br (Decidable.decide (iv ≥ 0)) (((ws = ws) ∧ (((List.length xs ≤ 2) ∧ (So (m_extent_Kind (List.length ws) cur l2 (IntKind.wrap IntKind.i64 (p + iv))) (fun (y0 : Int) => (br (y0 != 0) (Req (!step == 0) (J1 (mkEnv [(0, .ptr 0 0), (2, vi (n)), (3, vi (step)), (4, .fn 110 [.ptr 1 0, .ptr 2 0]), (6, .ptr 4 0), (11, vi (IntKind.wrap IntKind.i64 (IntKind.wrap IntKind.i64 (IntKind.wrap IntKind.i64 (Int.tdiv (IntKind.wrap IntKind.i64 (p + iv)) step) * step) + step)))]) [.pk 0 [ws, cur] (xs) [.row 3], .cells U [.ptr 0 0], .cells U2 (e_layout_Layout l3), .row 0 (ws : List (Int)) Bool.true, .cells 28 (e_layout_Layout l2)])) (((ws = ws) ∧ (((List.length xs ≤ 2) ∧ (So (m_extent_Find_1 (List.length ws) cur (IntKind.wrap IntKind.i64 (p + iv)) l3) (fun (y1 : Bool) => (br (!y1) (Req (!step == 0) (J1 (mkEnv [(0, .ptr 0 0), (2, vi (n)), (3, vi (step)), (4, .fn 110 [.ptr 1 0, .ptr 2 0]), (6, .ptr 4 0), (11, vi (IntKind.wrap IntKind.i64 (IntKind.wrap IntKind.i64 (IntKind.wrap IntKind.i64 (Int.tdiv (IntKind.wrap IntKind.i64 (p + iv)) step) * step) + step)))]) [.pk 0 [ws, cur] (xs) [.row 3], .cells U [.ptr 0 0], .cells U2 (e_layout_Layout l3), .row 0 (ws : List (Int)) Bool.true, .cells 28 (e_layout_Layout l2)])) (J2 (mkEnv [(0, .ptr 0 0), (2, vi (n)), (3, vi (step)), (4, .fn 110 [.ptr 1 0, .ptr 2 0]), (6, .ptr 4 0), (11, vi (p)), (12, vi (IntKind.wrap IntKind.i64 (iv - 1)))]) [.pk 0 [ws, cur] (xs) [.row 3], .cells U [.ptr 0 0], .cells U2 (e_layout_Layout l3), .row 0 (ws : List (Int)) Bool.true, .cells 28 (e_layout_Layout l2)]))))))))))))))) (K (vi (p)) [.pk 0 [ws, cur] (xs) [.row 3], .cells U [.ptr 0 0], .cells U2 (e_layout_Layout l3), .row 0 (ws : List (Int)) Bool.true])) := by
  kernel_rfl

theorem nf_extent_fit_1_L1 (m_extent_all : T_layout_Layout → Int → Int → Option (Bool)) (m_extent_Kind : Nat → (List Int) → T_layout_Layout → Int → Option (Int)) (m_extent_Find_1 : Nat → (List Int) → Int → T_layout_Layout → Option (Bool)) (ws : List Int) (cur : List Int) (xs : List Value) (l2 : T_layout_Layout) (n : Int) (step : Int) (l3 : T_layout_Layout) (U : TypeId) (U2 : TypeId) (p : Int) (K : V → Heap → Prop) (J1 : Env → Heap → Prop) : (ex (cfg_extent_fit_1 m_extent_all m_extent_Kind m_extent_Find_1) (⟨48, 4⟩ : Cx) (at_ (bodyOf Try.f112) [1, 0, 1, 1, 0, 0, 0]) (mkEnv [(0, .ptr 0 0), (2, vi (n)), (3, vi (step)), (4, .fn 110 [.ptr 1 0, .ptr 2 0]), (6, .ptr 4 0), (11, vi (p))]) [.pk 0 [ws, cur] (xs) [.row 3], .cells U [.ptr 0 0], .cells U2 (e_layout_Layout l3), .row 0 (ws : List (Int)) Bool.true, .cells 28 (e_layout_Layout l2)] (roundK (cfg_extent_fit_1 m_extent_all m_extent_Kind m_extent_Find_1) (⟨48, 4⟩ : Cx) (at_ (bodyOf Try.f112) [1, 0, 1, 1, 0, 0, 0]) (contK (cfg_extent_fit_1 m_extent_all m_extent_Kind m_extent_Find_1) (⟨48, 4⟩ : Cx) (bodyOf Try.f112) [1, 0, 1, 1, 0, 0] (retK (cfg_extent_fit_1 m_extent_all m_extent_Kind m_extent_Find_1) Try.f112 4 K)) J1)) = (
    So (m_extent_all l2 p n) (fun (y0 : Bool) => (br (y0) (Loop (cfg_extent_fit_1 m_extent_all m_extent_Kind m_extent_Find_1) (⟨48, 4⟩ : Cx) (at_ (bodyOf Try.f112) [1, 0, 1, 1, 0, 0, 0, 1, 0, 0, 1, 0, 0]) (mkEnv [(0, .ptr 0 0), (2, vi (n)), (3, vi (step)), (4, .fn 110 [.ptr 1 0, .ptr 2 0]), (6, .ptr 4 0), (11, vi (p)), (12, vi (IntKind.wrap IntKind.i64 (n - 1)))]) [.pk 0 [ws, cur] (xs) [.row 3], .cells U [.ptr 0 0], .cells U2 (e_layout_Layout l3), .row 0 (ws : List (Int)) Bool.true, .cells 28 (e_layout_Layout l2)] (contK (cfg_extent_fit_1 m_extent_all m_extent_Kind m_extent_Find_1) (⟨48, 4⟩ : Cx) (at_ (bodyOf Try.f112) [1, 0, 1, 1, 0, 0, 0]) [1, 0, 0, 1, 0] (roundK (cfg_extent_fit_1 m_extent_all m_extent_Kind m_extent_Find_1) (⟨48, 4⟩ : Cx) (at_ (bodyOf Try.f112) [1, 0, 1, 1, 0, 0, 0]) (contK (cfg_extent_fit_1 m_extent_all m_extent_Kind m_extent_Find_1) (⟨48, 4⟩ : Cx) (bodyOf Try.f112) [1, 0, 1, 1, 0, 0] (retK (cfg_extent_fit_1 m_extent_all m_extent_Kind m_extent_Find_1) Try.f112 4 K)) J1))) (K (vi (-1)) [.pk 0 [ws, cur] (xs) [.row 3], .cells U [.ptr 0 0], .cells U2 (e_layout_Layout l3), .row 0 (ws : List (Int)) Bool.true])))) := by
  kernel_rfl

theorem nf_extent_fit_1 (m_extent_all : T_layout_Layout → Int → Int → Option (Bool)) (m_extent_Kind : Nat → (List Int) → T_layout_Layout → Int → Option (Int)) (m_extent_Find_1 : Nat → (List Int) → Int → T_layout_Layout → Option (Bool)) (ws : List Int) (cur : List Int) (xs : List Value) (l2 : T_layout_Layout) (n : Int) (step : Int) (l3 : T_layout_Layout) (U : TypeId) (U2 : TypeId) (K : V → Heap → Prop) : (exF (cfg_extent_fit_1 m_extent_all m_extent_Kind m_extent_Find_1) Try.f112 [.ptr 0 0, .agg (e_layout_Layout l2), vi n, vi step, .fn 110 [.ptr 1 0, .ptr 2 0]] [.pk 0 [ws, cur] xs [.row 3], .cells U [.ptr 0 0], .cells U2 (e_layout_Layout l3), .row 0 ws true] K) = (
    Loop (cfg_extent_fit_1 m_extent_all m_extent_Kind m_extent_Find_1) (⟨48, 4⟩ : Cx) (at_ (bodyOf Try.f112) [1, 0, 1, 1, 0, 0, 0]) (mkEnv [(0, .ptr 0 0), (2, vi (n)), (3, vi (step)), (4, .fn 110 [.ptr 1 0, .ptr 2 0]), (6, .ptr 4 0), (11, vi (0))]) [.pk 0 [ws, cur] (xs) [.row 3], .cells U [.ptr 0 0], .cells U2 (e_layout_Layout l3), .row 0 (ws : List (Int)) Bool.true, .cells 28 (e_layout_Layout l2)] (contK (cfg_extent_fit_1 m_extent_all m_extent_Kind m_extent_Find_1) (⟨48, 4⟩ : Cx) (bodyOf Try.f112) [1, 0, 1, 1, 0, 0] (retK (cfg_extent_fit_1 m_extent_all m_extent_Kind m_extent_Find_1) Try.f112 4 K))) := by
  kernel_rfl

theorem nf_extent_fit_2_L2 (m_extent_all : T_layout_Layout → Int → Int → Option (Bool)) (m_extent_Kind : Nat → (List Int) → T_layout_Layout → Int → Option (Int)) (m_extent_Find_2 : Int → Option (Bool)) (ws : List Int) (cur : List Int) (xs : List Value) (l2 : T_layout_Layout) (n : Int) (step : Int) (p : Int) (iv : Int) (K : V → Heap → Prop) (J1 : Env → Heap → Prop) (J2 : Env → Heap → Prop) : (ex (cfg_extent_fit_2 m_extent_all m_extent_Kind m_extent_Find_2) (⟨48, 2⟩ : Cx) (at_ (bodyOf Try.f112) [1, 0, 1, 1, 0, 0, 0, 1, 0, 0, 1, 0, 0]) (mkEnv [(0, .ptr 0 0), (2, vi (n)), (3, vi (step)), (4, .fn 113 []), (6, .ptr 2 0), (11, vi (p)), (12, vi (iv))]) [.pk 0 [ws, cur] (xs) [.row 1], .row 0 (ws : List (Int)) Bool.true, .cells 28 (e_layout_Layout l2)] (roundK (cfg_extent_fit_2 m_extent_all m_extent_Kind m_extent_Find_2) (⟨48, 2⟩ : Cx) (at_ (bodyOf Try.f112) [1, 0, 1, 1, 0, 0, 0, 1, 0, 0, 1, 0, 0]) (contK (cfg_extent_fit_2 m_extent_all m_extent_Kind m_extent_Find_2) (⟨48, 2⟩ : Cx) (at_ (bodyOf Try.f112) [1, 0, 1, 1, 0, 0, 0]) [1, 0, 0, 1, 0] (roundK (cfg_extent_fit_2 m_extent_all m_extent_Kind m_extent_Find_2) (⟨48, 2⟩ : Cx) (at_ (bodyOf Try.f112) [1, 0, 1, 1, 0, 0, 0]) (contK (cfg_extent_fit_2 m_extent_all m_extent_Kind m_extent_Find_2) (⟨48, 2⟩ : Cx) (bodyOf Try.f112) [1, 0, 1, 1, 0, 0] (retK (cfg_extent_fit_2 m_extent_all m_extent_Kind m_extent_Find_2) Try.f112 2 K)) J1)) J2)) = (
    br (Decidable.decide (iv ≥ 0)) (((ws = ws) ∧ (((List.length xs ≤ 2) ∧ (So (m_extent_Kind (List.length ws) cur l2 (IntKind.wrap IntKind.i64 (p + iv))) (fun (y0 : Int) => (br (y0 != 0) (Req (!step == 0) (J1 (mkEnv [(0, .ptr 0 0), (2, vi (n)), (3, vi (step)), (4, .fn 113 []), (6, .ptr 2 0), (11, vi (IntKind.wrap IntKind.i64 (IntKind.wrap IntKind.i64 (IntKind.wrap IntKind.i64 (Int.tdiv (IntKind.wrap IntKind.i64 (p + iv)) step) * step) + step)))]) [.pk 0 [ws, cur] (xs) [.row 1], .row 0 (ws : List (Int)) Bool.true, .cells 28 (e_layout_Layout l2)])) (So (m_extent_Find_2 (IntKind.wrap IntKind.i64 (p + iv))) (fun (y1 : Bool) => (br (!y1) (Req (!step == 0) (J1 (mkEnv [(0, .ptr 0 0), (2, vi (n)), (3, vi (step)), (4, .fn 113 []), (6, .ptr 2 0), (11, vi (IntKind.wrap IntKind.i64 (IntKind.wrap IntKind.i64 (IntKind.wrap IntKind.i64 (Int.tdiv (IntKind.wrap IntKind.i64 (p + iv)) step) * step) + step)))]) [.pk 0 [ws, cur] (xs) [.row 1], .row 0 (ws : List (Int)) Bool.true, .cells 28 (e_layout_Layout l2)])) (J2 (mkEnv [(0, .ptr 0 0), (2, vi (n)), (3, vi (step)), (4, .fn 113 []), (6, .ptr 2 0), (11, vi (p)), (12, vi (IntKind.wrap IntKind.i64 (iv - 1)))]) [.pk 0 [ws, cur] (xs) [.row 1], .row 0 (ws : List (Int)) Bool.true, .cells 28 (e_layout_Layout l2)]))))))))))) (K (vi (p)) [.pk 0 [ws, cur] (xs) [.row 1], .row 0 (ws : List (Int)) Bool.true])) := by
  kernel_rfl

theorem nf_extent_fit_2_L1 (m_extent_all : T_layout_Layout → Int → Int → Option (Bool)) (m_extent_Kind : Nat → (List Int) → T_layout_Layout → Int → Option (Int)) (m_extent_Find_2 : Int → Option (Bool)) (ws : List Int) (cur : List Int) (xs : List Value) (l2 : T_layout_Layout) (n : Int) (step : Int) (p : Int) (K : V → Heap → Prop) (J1 : Env → Heap → Prop) : (ex (cfg_extent_fit_2 m_extent_all m_extent_Kind m_extent_Find_2) (⟨48, 2⟩ : Cx) (at_ (bodyOf Try.f112) [1, 0, 1, 1, 0, 0, 0]) (mkEnv [(0, .ptr 0 0), (2, vi (n)), (3, vi (step)), (4, .fn 113 []), (6, .ptr 2 0), (11, vi (p))]) [.pk 0 [ws, cur] (xs) [.row 1], .row 0 (ws : List (Int)) Bool.true, .cells 28 (e_layout_Layout l2)] (roundK (cfg_extent_fit_2 m_extent_all m_extent_Kind m_extent_Find_2) (⟨48, 2⟩ : Cx) (at_ (bodyOf Try.f112) [1, 0, 1, 1, 0, 0, 0]) (contK (cfg_extent_fit_2 m_extent_all m_extent_Kind m_extent_Find_2) (⟨48, 2⟩ : Cx) (bodyOf Try.f112) [1, 0, 1, 1, 0, 0] (retK (cfg_extent_fit_2 m_extent_all m_extent_Kind m_extent_Find_2) Try.f112 2 K)) J1)) = (
    So (m_extent_all l2 p n) (fun (y0 : Bool) => (br (y0) (Loop (cfg_extent_fit_2 m_extent_all m_extent_Kind m_extent_Find_2) (⟨48, 2⟩ : Cx) (at_ (bodyOf Try.f112) [1, 0, 1, 1, 0, 0, 0, 1, 0, 0, 1, 0, 0]) (mkEnv [(0, .ptr 0 0), (2, vi (n)), (3, vi (step)), (4, .fn 113 []), (6, .ptr 2 0), (11, vi (p)), (12, vi (IntKind.wrap IntKind.i64 (n - 1)))]) [.pk 0 [ws, cur] (xs) [.row 1], .row 0 (ws : List (Int)) Bool.true, .cells 28 (e_layout_Layout l2)] (contK (cfg_extent_fit_2 m_extent_all m_extent_Kind m_extent_Find_2) (⟨48, 2⟩ : Cx) (at_ (bodyOf Try.f112) [1, 0, 1, 1, 0, 0, 0]) [1, 0, 0, 1, 0] (roundK (cfg_extent_fit_2 m_extent_all m_extent_Kind m_extent_Find_2) (⟨48, 2⟩ : Cx) (at_ (bodyOf Try.f112) [1, 0, 1, 1, 0, 0, 0]) (contK (cfg_extent_fit_2 m_extent_all m_extent_Kind m_extent_Find_2) (⟨48, 2⟩ : Cx) (bodyOf Try.f112) [1, 0, 1, 1, 0, 0] (retK (cfg_extent_fit_2 m_extent_all m_extent_Kind m_extent_Find_2) Try.f112 2 K)) J1))) (K (vi (-1)) [.pk 0 [ws, cur] (xs) [.row 1], .row 0 (ws : List (Int)) Bool.true])))) := by
  kernel_rfl

theorem nf_extent_fit_2 (m_extent_all : T_layout_Layout → Int → Int → Option (Bool)) (m_extent_Kind : Nat → (List Int) → T_layout_Layout → Int → Option (Int)) (m_extent_Find_2 : Int → Option (Bool)) (ws : List Int) (cur : List Int) (xs : List Value) (l2 : T_layout_Layout) (n : Int) (step : Int) (K : V → Heap → Prop) : (exF (cfg_extent_fit_2 m_extent_all m_extent_Kind m_extent_Find_2) Try.f112 [.ptr 0 0, .agg (e_layout_Layout l2), vi n, vi step, .fn 113 []] [.pk 0 [ws, cur] xs [.row 1], .row 0 ws true] K) = (
    Loop (cfg_extent_fit_2 m_extent_all m_extent_Kind m_extent_Find_2) (⟨48, 2⟩ : Cx) (at_ (bodyOf Try.f112) [1, 0, 1, 1, 0, 0, 0]) (mkEnv [(0, .ptr 0 0), (2, vi (n)), (3, vi (step)), (4, .fn 113 []), (6, .ptr 2 0), (11, vi (0))]) [.pk 0 [ws, cur] (xs) [.row 1], .row 0 (ws : List (Int)) Bool.true, .cells 28 (e_layout_Layout l2)] (contK (cfg_extent_fit_2 m_extent_all m_extent_Kind m_extent_Find_2) (⟨48, 2⟩ : Cx) (bodyOf Try.f112) [1, 0, 1, 1, 0, 0] (retK (cfg_extent_fit_2 m_extent_all m_extent_Kind m_extent_Find_2) Try.f112 2 K))) := by
  kernel_rfl

theorem nf_extent_Find (m_extent_open : Nat → (List Int) → T_layout_Layout → Int → Int → Option (Bool)) (m_extent_Find_1 : Nat → (List Int) → Int → T_layout_Layout → Option (Bool)) (m_extent_fit_1 : Nat → (List Int) → T_layout_Layout → Int → Int → T_layout_Layout → Option (Int)) (m_extent_fit_2 : Nat → (List Int) → T_layout_Layout → Int → Int → Option (Int)) (m_extent_Find_2 : Int → Option (Bool)) (ws : List Int) (cur : List Int) (xs : List Value) (l2 : T_layout_Layout) (n : Int) (step : Int) (K : V → Heap → Prop) : (exF (cfg_extent_Find m_extent_open m_extent_Find_1 m_extent_fit_1 m_extent_fit_2 m_extent_Find_2) Try.f57 [.ptr 0 0, .agg (e_layout_Layout l2), vi n, vi step] [.pk 0 [ws, cur] xs [.row 1], .row 0 ws true] K) = (
    br (Decidable.decide (n < 1)) (br (Decidable.decide (n ≥ 1)) (br (Decidable.decide (step > 256)) (((ws = ws) ∧ (((List.length xs ≤ 2) ∧ (So (m_extent_open (List.length ws) cur l2 0 n) (fun (y0 : Bool) => (br (y0) (K (vi (0)) [.pk 0 [ws, cur] (xs) [.row 1], .row 0 (ws : List (Int)) Bool.true]) (K (vi (-1)) [.pk 0 [ws, cur] (xs) [.row 1], .row 0 (ws : List (Int)) Bool.true])))))))) (K (vi (-1)) [.pk 0 [ws, cur] (xs) [.row 1], .row 0 (ws : List (Int)) Bool.true])) (K (vi (-1)) [.pk 0 [ws, cur] (xs) [.row 1], .row 0 (ws : List (Int)) Bool.true])) (br (Decidable.decide (step < 1)) (br (Decidable.decide (n ≥ 1)) (br (Decidable.decide (step > 256)) (((ws = ws) ∧ (((List.length xs ≤ 2) ∧ (So (m_extent_open (List.length ws) cur l2 0 n) (fun (y1 : Bool) => (br (y1) (K (vi (0)) [.pk 0 [ws, cur] (xs) [.row 1], .row 0 (ws : List (Int)) Bool.true]) (K (vi (-1)) [.pk 0 [ws, cur] (xs) [.row 1], .row 0 (ws : List (Int)) Bool.true])))))))) (K (vi (-1)) [.pk 0 [ws, cur] (xs) [.row 1], .row 0 (ws : List (Int)) Bool.true])) (K (vi (-1)) [.pk 0 [ws, cur] (xs) [.row 1], .row 0 (ws : List (Int)) Bool.true])) (br (Decidable.decide (step > 256)) (br (Decidable.decide (n ≥ 1)) (br (Decidable.decide (step > 256)) (((ws = ws) ∧ (((List.length xs ≤ 2) ∧ (So (m_extent_open (List.length ws) cur l2 0 n) (fun (y2 : Bool) => (br (y2) (K (vi (0)) [.pk 0 [ws, cur] (xs) [.row 1], .row 0 (ws : List (Int)) Bool.true]) (K (vi (-1)) [.pk 0 [ws, cur] (xs) [.row 1], .row 0 (ws : List (Int)) Bool.true])))))))) (K (vi (-1)) [.pk 0 [ws, cur] (xs) [.row 1], .row 0 (ws : List (Int)) Bool.true])) (K (vi (-1)) [.pk 0 [ws, cur] (xs) [.row 1], .row 0 (ws : List (Int)) Bool.true])) (((ws = ws) ∧ (((List.length xs ≤ 2) ∧ (So (m_extent_fit_1 (List.length ws) cur l2 n step l2) (fun (y3 : Int) => (br (y3 != -1) (K (vi (y3)) [.pk 0 [ws, cur] (xs) [.row 1], .row 0 (ws : List (Int)) Bool.true]) (((ws = ws) ∧ (((List.length xs ≤ 2) ∧ (So (m_extent_fit_2 (List.length ws) cur l2 n step) (fun (y4 : Int) => (K (vi (y4)) [.pk 0 [ws, cur] (xs) [.row 1], .row 0 (ws : List (Int)) Bool.true]))))))))))))))))) := by
  kernel_rfl

theorem nf_extent_Take_L1 (m_extent_open : Nat → (List Int) → T_layout_Layout → Int → Int → Option (Bool)) (m_chunk_Ensure : Nat → (List Int) → T_layout_Layout → Int → Int → Option (Int × (List Int))) (m_extent_set : Nat → (List Int) → T_layout_Layout → Int → Int → Int → Option ((List Int))) (ws : List Int) (cur : List Int) (xs : List Value) (l2 : T_layout_Layout) (p : Int) (n : Int) (kindv : Int) (iv : Int) (cur2 : List Int) (K : V → Heap → Prop) (J1 : Env → Heap → Prop) : (ex (cfg_extent_Take m_extent_open m_chunk_Ensure m_extent_set) (⟨60, 2⟩ : Cx) (at_ (bodyOf Try.f61) [1, 1, 1, 1, 1, 1, 0, 1, 0, 0]) (mkEnv [(0, .ptr 0 0), (2, vi (p)), (3, vi (n)), (6, .ptr 2 0), (12, vi (iv))]) [.pk 0 [ws, cur2] (xs) [.row 1], .row 0 (ws : List (Int)) Bool.true, .cells 28 (e_layout_Layout l2)] (roundK (cfg_extent_Take m_extent_open m_chunk_Ensure m_extent_set) (⟨60, 2⟩ : Cx) (at_ (bodyOf Try.f61) [1, 1, 1, 1, 1, 1, 0, 1, 0, 0]) (contK (cfg_extent_Take m_extent_open m_chunk_Ensure m_extent_set) (⟨60, 2⟩ : Cx) (bodyOf Try.f61) [1, 1, 1, 1, 1, 1, 0, 1, 0] (retK (cfg_extent_Take m_extent_open m_chunk_Ensure m_extent_set) Try.f61 2 K)) J1)) = (
    br (Decidable.decide (iv < n)) (((ws = ws) ∧ (((List.length xs ≤ 2) ∧ (So (m_extent_set (List.length ws) cur2 l2 (IntKind.wrap IntKind.i64 (p + iv)) 7 0) (fun (y0 : List Int) => (J1 (mkEnv [(0, .ptr 0 0), (2, vi (p)), (3, vi (n)), (6, .ptr 2 0), (12, vi (IntKind.wrap IntKind.i64 (iv + 1)))]) [.pk 0 [ws, y0] (xs) [.row 1], .row 0 (ws : List (Int)) Bool.true, .cells 28 (e_layout_Layout l2)]))))))) (K (vb (Bool.true)) [.pk 0 [ws, cur2] (xs) [.row 1], .row 0 (ws : List (Int)) Bool.true])) := by
  kernel_rfl

theorem nf_extent_Take (m_extent_open : Nat → (List Int) → T_layout_Layout → Int → Int → Option (Bool)) (m_chunk_Ensure : Nat → (List Int) → T_layout_Layout → Int → Int → Option (Int × (List Int))) (m_extent_set : Nat → (List Int) → T_layout_Layout → Int → Int → Int → Option ((List Int))) (ws : List Int) (cur : List Int) (xs : List Value) (l2 : T_layout_Layout) (p : Int) (n : Int) (kindv : Int) (K : V → Heap → Prop) : (exF (cfg_extent_Take m_extent_open m_chunk_Ensure m_extent_set) Try.f61 [.ptr 0 0, .agg (e_layout_Layout l2), vi p, vi n, vi kindv] [.pk 0 [ws, cur] xs [.row 1], .row 0 ws true] K) = (
    br (Decidable.decide (kindv < 1)) (K (vb (Bool.false)) [.pk 0 [ws, cur] (xs) [.row 1], .row 0 (ws : List (Int)) Bool.true]) (br (Decidable.decide (kindv > 6)) (K (vb (Bool.false)) [.pk 0 [ws, cur] (xs) [.row 1], .row 0 (ws : List (Int)) Bool.true]) (br (Decidable.decide (kindv < 6)) (br (n != 1) (K (vb (Bool.false)) [.pk 0 [ws, cur] (xs) [.row 1], .row 0 (ws : List (Int)) Bool.true]) (((ws = ws) ∧ (((List.length xs ≤ 2) ∧ (So (m_extent_open (List.length ws) cur l2 p n) (fun (y0 : Bool) => (br (!y0) (K (vb (Bool.false)) [.pk 0 [ws, cur] (xs) [.row 1], .row 0 (ws : List (Int)) Bool.true]) (((ws = ws) ∧ (((List.length xs ≤ 2) ∧ (So (m_chunk_Ensure (List.length ws) cur l2 p n) (fun (y1 : Int × List Int) => (br (kindv == 6) (((ws = ws) ∧ (((List.length xs ≤ 2) ∧ (So (m_extent_set (List.length ws) (Prod.snd y1) l2 p kindv n) (fun (y2 : List Int) => (Loop (cfg_extent_Take m_extent_open m_chunk_Ensure m_extent_set) (⟨60, 2⟩ : Cx) (at_ (bodyOf Try.f61) [1, 1, 1, 1, 1, 1, 0, 1, 0, 0]) (mkEnv [(0, .ptr 0 0), (2, vi (p)), (3, vi (n)), (6, .ptr 2 0), (12, vi (1))]) [.pk 0 [ws, y2] (xs) [.row 1], .row 0 (ws : List (Int)) Bool.true, .cells 28 (e_layout_Layout l2)] (contK (cfg_extent_Take m_extent_open m_chunk_Ensure m_extent_set) (⟨60, 2⟩ : Cx) (bodyOf Try.f61) [1, 1, 1, 1, 1, 1, 0, 1, 0] (retK (cfg_extent_Take m_extent_open m_chunk_Ensure m_extent_set) Try.f61 2 K))))))))) (((ws = ws) ∧ (((List.length xs ≤ 2) ∧ (So (m_extent_set (List.length ws) (Prod.snd y1) l2 p kindv 0) (fun (y3 : List Int) => (Loop (cfg_extent_Take m_extent_open m_chunk_Ensure m_extent_set) (⟨60, 2⟩ : Cx) (at_ (bodyOf Try.f61) [1, 1, 1, 1, 1, 1, 0, 1, 0, 0]) (mkEnv [(0, .ptr 0 0), (2, vi (p)), (3, vi (n)), (6, .ptr 2 0), (12, vi (1))]) [.pk 0 [ws, y3] (xs) [.row 1], .row 0 (ws : List (Int)) Bool.true, .cells 28 (e_layout_Layout l2)] (contK (cfg_extent_Take m_extent_open m_chunk_Ensure m_extent_set) (⟨60, 2⟩ : Cx) (bodyOf Try.f61) [1, 1, 1, 1, 1, 1, 0, 1, 0] (retK (cfg_extent_Take m_extent_open m_chunk_Ensure m_extent_set) Try.f61 2 K)))))))))))))))))))))))) (((ws = ws) ∧ (((List.length xs ≤ 2) ∧ (So (m_extent_open (List.length ws) cur l2 p n) (fun (y4 : Bool) => (br (!y4) (K (vb (Bool.false)) [.pk 0 [ws, cur] (xs) [.row 1], .row 0 (ws : List (Int)) Bool.true]) (((ws = ws) ∧ (((List.length xs ≤ 2) ∧ (So (m_chunk_Ensure (List.length ws) cur l2 p n) (fun (y5 : Int × List Int) => (br (kindv == 6) (((ws = ws) ∧ (((List.length xs ≤ 2) ∧ (So (m_extent_set (List.length ws) (Prod.snd y5) l2 p kindv n) (fun (y6 : List Int) => (Loop (cfg_extent_Take m_extent_open m_chunk_Ensure m_extent_set) (⟨60, 2⟩ : Cx) (at_ (bodyOf Try.f61) [1, 1, 1, 1, 1, 1, 0, 1, 0, 0]) (mkEnv [(0, .ptr 0 0), (2, vi (p)), (3, vi (n)), (6, .ptr 2 0), (12, vi (1))]) [.pk 0 [ws, y6] (xs) [.row 1], .row 0 (ws : List (Int)) Bool.true, .cells 28 (e_layout_Layout l2)] (contK (cfg_extent_Take m_extent_open m_chunk_Ensure m_extent_set) (⟨60, 2⟩ : Cx) (bodyOf Try.f61) [1, 1, 1, 1, 1, 1, 0, 1, 0] (retK (cfg_extent_Take m_extent_open m_chunk_Ensure m_extent_set) Try.f61 2 K))))))))) (((ws = ws) ∧ (((List.length xs ≤ 2) ∧ (So (m_extent_set (List.length ws) (Prod.snd y5) l2 p kindv 0) (fun (y7 : List Int) => (Loop (cfg_extent_Take m_extent_open m_chunk_Ensure m_extent_set) (⟨60, 2⟩ : Cx) (at_ (bodyOf Try.f61) [1, 1, 1, 1, 1, 1, 0, 1, 0, 0]) (mkEnv [(0, .ptr 0 0), (2, vi (p)), (3, vi (n)), (6, .ptr 2 0), (12, vi (1))]) [.pk 0 [ws, y7] (xs) [.row 1], .row 0 (ws : List (Int)) Bool.true, .cells 28 (e_layout_Layout l2)] (contK (cfg_extent_Take m_extent_open m_chunk_Ensure m_extent_set) (⟨60, 2⟩ : Cx) (bodyOf Try.f61) [1, 1, 1, 1, 1, 1, 0, 1, 0] (retK (cfg_extent_Take m_extent_open m_chunk_Ensure m_extent_set) Try.f61 2 K)))))))))))))))))))))))))) := by
  kernel_rfl

theorem nf_extent_length_L1 (m_extent_Kind : Nat → (List Int) → T_layout_Layout → Int → Option (Int)) (ws : List Int) (cur : List Int) (xs : List Value) (l2 : T_layout_Layout) (p : Int) (n : Int) (K : V → Heap → Prop) (J1 : Env → Heap → Prop) : (ex (cfg_extent_length m_extent_Kind) (⟨23, 2⟩ : Cx) (at_ (bodyOf Try.f116) [1, 1, 0, 1, 0, 0, 0]) (mkEnv [(0, .ptr 0 0), (2, vi (p)), (4, .ptr 2 0), (7, vi (n))]) [.pk 0 [ws, cur] (xs) [.row 1], .row 0 (ws : List (Int)) Bool.true, .cells 28 (e_layout_Layout l2)] (roundK (cfg_extent_length m_extent_Kind) (⟨23, 2⟩ : Cx) (at_ (bodyOf Try.f116) [1, 1, 0, 1, 0, 0, 0]) (contK (cfg_extent_length m_extent_Kind) (⟨23, 2⟩ : Cx) (bodyOf Try.f116) [1, 1, 0, 1, 0, 0] (retK (cfg_extent_length m_extent_Kind) Try.f116 2 K)) J1)) = (
    ((ws = ws) ∧ (((List.length xs ≤ 2) ∧ (So (m_extent_Kind (List.length ws) cur l2 (IntKind.wrap IntKind.i64 (p + n))) (fun (y0 : Int) => (br (y0 == 7) (J1 (mkEnv [(0, .ptr 0 0), (2, vi (p)), (4, .ptr 2 0), (7, vi (IntKind.wrap IntKind.i64 (n + 1)))]) [.pk 0 [ws, cur] (xs) [.row 1], .row 0 (ws : List (Int)) Bool.true, .cells 28 (e_layout_Layout l2)]) (K (vi (n)) [.pk 0 [ws, cur] (xs) [.row 1], .row 0 (ws : List (Int)) Bool.true])))))))) := by
  kernel_rfl

theorem nf_extent_length (m_extent_Kind : Nat → (List Int) → T_layout_Layout → Int → Option (Int)) (ws : List Int) (cur : List Int) (xs : List Value) (l2 : T_layout_Layout) (p : Int) (K : V → Heap → Prop) : (exF (cfg_extent_length m_extent_Kind) Try.f116 [.ptr 0 0, .agg (e_layout_Layout l2), vi p] [.pk 0 [ws, cur] xs [.row 1], .row 0 ws true] K) = (
    ((ws = ws) ∧ (((List.length xs ≤ 2) ∧ (So (m_extent_Kind (List.length ws) cur l2 p) (fun (y0 : Int) => (br (y0 == 6) (Loop (cfg_extent_length m_extent_Kind) (⟨23, 2⟩ : Cx) (at_ (bodyOf Try.f116) [1, 1, 0, 1, 0, 0, 0]) (mkEnv [(0, .ptr 0 0), (2, vi (p)), (4, .ptr 2 0), (7, vi (1))]) [.pk 0 [ws, cur] (xs) [.row 1], .row 0 (ws : List (Int)) Bool.true, .cells 28 (e_layout_Layout l2)] (contK (cfg_extent_length m_extent_Kind) (⟨23, 2⟩ : Cx) (bodyOf Try.f116) [1, 1, 0, 1, 0, 0] (retK (cfg_extent_length m_extent_Kind) Try.f116 2 K))) (K (vi (1)) [.pk 0 [ws, cur] (xs) [.row 1], .row 0 (ws : List (Int)) Bool.true])))))))) := by
  kernel_rfl

theorem nf_extent_Drop_L1 (m_extent_Kind : Nat → (List Int) → T_layout_Layout → Int → Option (Int)) (m_extent_length : Nat → (List Int) → T_layout_Layout → Int → Option (Int)) (m_extent_set : Nat → (List Int) → T_layout_Layout → Int → Int → Int → Option ((List Int))) (ws : List Int) (cur : List Int) (xs : List Value) (l2 : T_layout_Layout) (p : Int) (n : Int) (t24 : Int) (t25 : Int) (cur2 : List Int) (K : V → Heap → Prop) (J1 : Env → Heap → Prop) : (ex (cfg_extent_Drop m_extent_Kind m_extent_length m_extent_set) (⟨36, 2⟩ : Cx) (at_ (bodyOf Try.f64) [1, 1, 1, 0, 1, 0, 0]) (mkEnv [(0, .ptr 0 0), (2, vi (p)), (4, .ptr 2 0), (8, vi (n)), (24, vi (t24)), (25, vi (t25))]) [.pk 0 [ws, cur2] (xs) [.row 1], .row 0 (ws : List (Int)) Bool.true, .cells 28 (e_layout_Layout l2)] (roundK (cfg_extent_Drop m_extent_Kind m_extent_length m_extent_set) (⟨36, 2⟩ : Cx) (at_ (bodyOf Try.f64) [1, 1, 1, 0, 1, 0, 0]) (contK (cfg_extent_Drop m_extent_Kind m_extent_length m_extent_set) (⟨36, 2⟩ : Cx) (bodyOf Try.f64) [1, 1, 1, 0, 1, 0] (retK (cfg_extent_Drop m_extent_Kind m_extent_length m_extent_set) Try.f64 2 K)) J1)) = (
    br (Decidable.decide (t25 < t24)) (((ws = ws) ∧ (((List.length xs ≤ 2) ∧ (So (m_extent_set (List.length ws) cur2 l2 (IntKind.wrap IntKind.i64 (p + t25)) 0 0) (fun (y0 : List Int) => (J1 (mkEnv [(0, .ptr 0 0), (2, vi (p)), (4, .ptr 2 0), (8, vi (n)), (24, vi (t24)), (25, vi (IntKind.wrap IntKind.i64 (t25 + 1)))]) [.pk 0 [ws, y0] (xs) [.row 1], .row 0 (ws : List (Int)) Bool.true, .cells 28 (e_layout_Layout l2)]))))))) (K (vi (n)) [.pk 0 [ws, cur2] (xs) [.row 1], .row 0 (ws : List (Int)) Bool.true])) := by
  kernel_rfl

theorem nf_extent_Drop (m_extent_Kind : Nat → (List Int) → T_layout_Layout → Int → Option (Int)) (m_extent_length : Nat → (List Int) → T_layout_Layout → Int → Option (Int)) (m_extent_set : Nat → (List Int) → T_layout_Layout → Int → Int → Int → Option ((List Int))) (ws : List Int) (cur : List Int) (xs : List Value) (l2 : T_layout_Layout) (p : Int) (K : V → Heap → Prop) : (exF (cfg_extent_Drop m_extent_Kind m_extent_length m_extent_set) Try.f64 [.ptr 0 0, .agg (e_layout_Layout l2), vi p] [.pk 0 [ws, cur] xs [.row 1], .row 0 ws true] K) = (
    ((ws = ws) ∧ (((List.length xs ≤ 2) ∧ (So (m_extent_Kind (List.length ws) cur l2 p) (fun (y0 : Int) => (br (Decidable.decide (y0 ≤ 0)) (K (vi (0)) [.pk 0 [ws, cur] (xs) [.row 1], .row 0 (ws : List (Int)) Bool.true]) (br (Decidable.decide (y0 ≥ 7)) (K (vi (0)) [.pk 0 [ws, cur] (xs) [.row 1], .row 0 (ws : List (Int)) Bool.true]) (((ws = ws) ∧ (((List.length xs ≤ 2) ∧ (So (m_extent_length (List.length ws) cur l2 p) (fun (y1 : Int) => (Loop (cfg_extent_Drop m_extent_Kind m_extent_length m_extent_set) (⟨36, 2⟩ : Cx) (at_ (bodyOf Try.f64) [1, 1, 1, 0, 1, 0, 0]) (mkEnv [(0, .ptr 0 0), (2, vi (p)), (4, .ptr 2 0), (8, vi (y1)), (24, vi (y1)), (25, vi (0))]) [.pk 0 [ws, cur] (xs) [.row 1], .row 0 (ws : List (Int)) Bool.true, .cells 28 (e_layout_Layout l2)] (contK (cfg_extent_Drop m_extent_Kind m_extent_length m_extent_set) (⟨36, 2⟩ : Cx) (bodyOf Try.f64) [1, 1, 1, 0, 1, 0] (retK (cfg_extent_Drop m_extent_Kind m_extent_length m_extent_set) Try.f64 2 K))))))))))))))))) := by
  kernel_rfl

theorem nf_extent_First_L1 (m_extent_Kind : Nat → (List Int) → T_layout_Layout → Int → Option (Int)) (ws : List Int) (cur : List Int) (xs : List Value) (l2 : T_layout_Layout) (p : Int) (p2 : Int) (K : V → Heap → Prop) (J1 : Env → Heap → Prop) : (ex (cfg_extent_First m_extent_Kind) (⟨24, 2⟩ : Cx) (at_ (bodyOf Try.f63) [1, 1, 0, 0, 0]) (mkEnv [(0, .ptr 0 0), (2, vi (p2)), (4, .ptr 2 0)]) [.pk 0 [ws, cur] (xs) [.row 1], .row 0 (ws : List (Int)) Bool.true, .cells 28 (e_layout_Layout l2)] (roundK (cfg_extent_First m_extent_Kind) (⟨24, 2⟩ : Cx) (at_ (bodyOf Try.f63) [1, 1, 0, 0, 0]) (contK (cfg_extent_First m_extent_Kind) (⟨24, 2⟩ : Cx) (bodyOf Try.f63) [1, 1, 0, 0] (retK (cfg_extent_First m_extent_Kind) Try.f63 2 K)) J1)) = (
    br (Decidable.decide (p2 > 0)) (((ws = ws) ∧ (((List.length xs ≤ 2) ∧ (So (m_extent_Kind (List.length ws) cur l2 p2) (fun (y0 : Int) => (br (y0 == 7) (J1 (mkEnv [(0, .ptr 0 0), (2, vi (IntKind.wrap IntKind.i64 (p2 - 1))), (4, .ptr 2 0)]) [.pk 0 [ws, cur] (xs) [.row 1], .row 0 (ws : List (Int)) Bool.true, .cells 28 (e_layout_Layout l2)]) (K (vi (p2)) [.pk 0 [ws, cur] (xs) [.row 1], .row 0 (ws : List (Int)) Bool.true])))))))) (K (vi (p2)) [.pk 0 [ws, cur] (xs) [.row 1], .row 0 (ws : List (Int)) Bool.true])) := by
  kernel_rfl

theorem nf_extent_First (m_extent_Kind : Nat → (List Int) → T_layout_Layout → Int → Option (Int)) (ws : List Int) (cur : List Int) (xs : List Value) (l2 : T_layout_Layout) (p : Int) (K : V → Heap → Prop) : (exF (cfg_extent_First m_extent_Kind) Try.f63 [.ptr 0 0, .agg (e_layout_Layout l2), vi p] [.pk 0 [ws, cur] xs [.row 1], .row 0 ws true] K) = (
    ((ws = ws) ∧ (((List.length xs ≤ 2) ∧ (So (m_extent_Kind (List.length ws) cur l2 p) (fun (y0 : Int) => (br (Decidable.decide (y0 ≤ 0)) (K (vi (-1)) [.pk 0 [ws, cur] (xs) [.row 1], .row 0 (ws : List (Int)) Bool.true]) (Loop (cfg_extent_First m_extent_Kind) (⟨24, 2⟩ : Cx) (at_ (bodyOf Try.f63) [1, 1, 0, 0, 0]) (mkEnv [(0, .ptr 0 0), (2, vi (p)), (4, .ptr 2 0)]) [.pk 0 [ws, cur] (xs) [.row 1], .row 0 (ws : List (Int)) Bool.true, .cells 28 (e_layout_Layout l2)] (contK (cfg_extent_First m_extent_Kind) (⟨24, 2⟩ : Cx) (bodyOf Try.f63) [1, 1, 0, 0] (retK (cfg_extent_First m_extent_Kind) Try.f63 2 K)))))))))) := by
  kernel_rfl

theorem nf_extent_Used_L1 (m_layout_Layout_Config : T_layout_Layout → Option (T_api_Config)) (m_extent_Kind : Nat → (List Int) → T_layout_Layout → Int → Option (Int)) (ws : List Int) (cur : List Int) (xs : List Value) (l2 : T_layout_Layout) (many : Int) (t9 : Int) (t10 : Int) (K : V → Heap → Prop) (J1 : Env → Heap → Prop) : (ex (cfg_extent_Used m_layout_Layout_Config m_extent_Kind) (⟨22, 2⟩ : Cx) (at_ (bodyOf Try.f60) [1, 1, 0, 1, 0, 0]) (mkEnv [(0, .ptr 0 0), (3, .ptr 2 0), (5, vi (many)), (9, vi (t9)), (10, vi (t10))]) [.pk 0 [ws, cur] (xs) [.row 1], .row 0 (ws : List (Int)) Bool.true, .cells 28 (e_layout_Layout l2)] (roundK (cfg_extent_Used m_layout_Layout_Config m_extent_Kind) (⟨22, 2⟩ : Cx) (at_ (bodyOf Try.f60) [1, 1, 0, 1, 0, 0]) (contK (cfg_extent_Used m_layout_Layout_Config m_extent_Kind) (⟨22, 2⟩ : Cx) (bodyOf Try.f60) [1, 1, 0, 1, 0] (retK (cfg_extent_Used m_layout_Layout_Config m_extent_Kind) Try.f60 2 K)) J1)) = (
    br (Decidable.decide (t10 < t9)) (((ws = ws) ∧ (((List.length xs ≤ 2) ∧ (So (m_extent_Kind (List.length ws) cur l2 t10) (fun (y0 : Int) => (br (y0 != 0) (J1 (mkEnv [(0, .ptr 0 0), (3, .ptr 2 0), (5, vi (IntKind.wrap IntKind.i64 (many + 1))), (9, vi (t9)), (10, vi (IntKind.wrap IntKind.i64 (t10 + 1)))]) [.pk 0 [ws, cur] (xs) [.row 1], .row 0 (ws : List (Int)) Bool.true, .cells 28 (e_layout_Layout l2)]) (J1 (mkEnv [(0, .ptr 0 0), (3, .ptr 2 0), (5, vi (many)), (9, vi (t9)), (10, vi (IntKind.wrap IntKind.i64 (t10 + 1)))]) [.pk 0 [ws, cur] (xs) [.row 1], .row 0 (ws : List (Int)) Bool.true, .cells 28 (e_layout_Layout l2)])))))))) (K (vi (many)) [.pk 0 [ws, cur] (xs) [.row 1], .row 0 (ws : List (Int)) Bool.true])) := by
  kernel_rfl

theorem nf_extent_Used (m_layout_Layout_Config : T_layout_Layout → Option (T_api_Config)) (m_extent_Kind : Nat → (List Int) → T_layout_Layout → Int → Option (Int)) (ws : List Int) (cur : List Int) (xs : List Value) (l2 : T_layout_Layout) (K : V → Heap → Prop) : (exF (cfg_extent_Used m_layout_Layout_Config m_extent_Kind) Try.f60 [.ptr 0 0, .agg (e_layout_Layout l2)] [.pk 0 [ws, cur] xs [.row 1], .row 0 ws true] K) = (
    So (m_layout_Layout_Config l2) (fun (y0 : T_api_Config) => (Loop (cfg_extent_Used m_layout_Layout_Config m_extent_Kind) (⟨22, 2⟩ : Cx) (at_ (bodyOf Try.f60) [1, 1, 0, 1, 0, 0]) (mkEnv [(0, .ptr 0 0), (3, .ptr 2 0), (5, vi (0)), (9, vi (T_api_Config.Pages y0)), (10, vi (0))]) [.pk 0 [ws, cur] (xs) [.row 1], .row 0 (ws : List (Int)) Bool.true, .cells 28 (e_layout_Layout l2)] (contK (cfg_extent_Used m_layout_Layout_Config m_extent_Kind) (⟨22, 2⟩ : Cx) (bodyOf Try.f60) [1, 1, 0, 1, 0] (retK (cfg_extent_Used m_layout_Layout_Config m_extent_Kind) Try.f60 2 K))))) := by
  kernel_rfl

theorem nf_extent_Trim_L1 (m_layout_Layout_Chunks : T_layout_Layout → Option (Int)) (m_chunk_Pages : T_layout_Layout → Int → Option (Int × Int)) (m_extent_open : Nat → (List Int) → T_layout_Layout → Int → Int → Option (Bool)) (m_chunk_Unmap : Nat → (List Int) → T_layout_Layout → Int → Option (Bool × (List Int))) (ws : List Int) (cur : List Int) (xs : List Value) (l2 : T_layout_Layout) (turned : Int) (t10 : Int) (t11 : Int) (cur2 : List Int) (K : V → Heap → Prop) (J1 : Env → Heap → Prop) : (ex (cfg_extent_Trim m_layout_Layout_Chunks m_chunk_Pages m_extent_open m_chunk_Unmap) (⟨36, 2⟩ : Cx) (at_ (bodyOf Try.f66) [1, 1, 0, 1, 0, 0]) (mkEnv [(0, .ptr 0 0), (3, .ptr 2 0), (5, vi (turned)), (10, vi (t10)), (11, vi (t11))]) [.pk 0 [ws, cur2] (xs) [.row 1], .row 0 (ws : List (Int)) Bool.true, .cells 28 (e_layout_Layout l2)] (roundK (cfg_extent_Trim m_layout_Layout_Chunks m_chunk_Pages m_extent_open m_chunk_Unmap) (⟨36, 2⟩ : Cx) (at_ (bodyOf Try.f66) [1, 1, 0, 1, 0, 0]) (contK (cfg_extent_Trim m_layout_Layout_Chunks m_chunk_Pages m_extent_open m_chunk_Unmap) (⟨36, 2⟩ : Cx) (bodyOf Try.f66) [1, 1, 0, 1, 0] (retK (cfg_extent_Trim m_layout_Layout_Chunks m_chunk_Pages m_extent_open m_chunk_Unmap) Try.f66 2 K)) J1)) = (
    br (Decidable.decide (t11 < t10)) (So (m_chunk_Pages l2 t11) (fun (y0 : Int × Int) => (((ws = ws) ∧ (((List.length xs ≤ 2) ∧ (So (m_extent_open (List.length ws) cur2 l2 (Prod.fst y0) (Prod.snd y0)) (fun (y1 : Bool) => (br (y1) (((ws = ws) ∧ (((List.length xs ≤ 2) ∧ (So (m_chunk_Unmap (List.length ws) cur2 l2 t11) (fun (y2 : Bool × List Int) => (br (Prod.fst y2) (J1 (mkEnv [(0, .ptr 0 0), (3, .ptr 2 0), (5, vi (IntKind.wrap IntKind.i64 (turned + Prod.snd y0))), (10, vi (t10)), (11, vi (IntKind.wrap IntKind.i64 (t11 + 1)))]) [.pk 0 [ws, Prod.snd y2] (xs) [.row 1], .row 0 (ws : List (Int)) Bool.true, .cells 28 (e_layout_Layout l2)]) (J1 (mkEnv [(0, .ptr 0 0), (3, .ptr 2 0), (5, vi (turned)), (10, vi (t10)), (11, vi (IntKind.wrap IntKind.i64 (t11 + 1)))]) [.pk 0 [ws, Prod.snd y2] (xs) [.row 1], .row 0 (ws : List (Int)) Bool.true, .cells 28 (e_layout_Layout l2)])))))))) (J1 (mkEnv [(0, .ptr 0 0), (3, .ptr 2 0), (5, vi (turned)), (10, vi (t10)), (11, vi (IntKind.wrap IntKind.i64 (t11 + 1)))]) [.pk 0 [ws, cur2] (xs) [.row 1], .row 0 (ws : List (Int)) Bool.true, .cells 28 (e_layout_Layout l2)])))))))))) (K (vi (turned)) [.pk 0 [ws, cur2] (xs) [.row 1], .row 0 (ws : List (Int)) Bool.true])) := by
  kernel_rfl

theorem nf_extent_Trim (m_layout_Layout_Chunks : T_layout_Layout → Option (Int)) (m_chunk_Pages : T_layout_Layout → Int → Option (Int × Int)) (m_extent_open : Nat → (List Int) → T_layout_Layout → Int → Int → Option (Bool)) (m_chunk_Unmap : Nat → (List Int) → T_layout_Layout → Int → Option (Bool × (List Int))) (ws : List Int) (cur : List Int) (xs : List Value) (l2 : T_layout_Layout) (K : V → Heap → Prop) : (exF (cfg_extent_Trim m_layout_Layout_Chunks m_chunk_Pages m_extent_open m_chunk_Unmap) Try.f66 [.ptr 0 0, .agg (e_layout_Layout l2)] [.pk 0 [ws, cur] xs [.row 1], .row 0 ws true] K) = (
    So (m_layout_Layout_Chunks l2) (fun (y0 : Int) => (Loop (cfg_extent_Trim m_layout_Layout_Chunks m_chunk_Pages m_extent_open m_chunk_Unmap) (⟨36, 2⟩ : Cx) (at_ (bodyOf Try.f66) [1, 1, 0, 1, 0, 0]) (mkEnv [(0, .ptr 0 0), (3, .ptr 2 0), (5, vi (0)), (10, vi (y0)), (11, vi (0))]) [.pk 0 [ws, cur] (xs) [.row 1], .row 0 (ws : List (Int)) Bool.true, .cells 28 (e_layout_Layout l2)] (contK (cfg_extent_Trim m_layout_Layout_Chunks m_chunk_Pages m_extent_open m_chunk_Unmap) (⟨36, 2⟩ : Cx) (bodyOf Try.f66) [1, 1, 0, 1, 0] (retK (cfg_extent_Trim m_layout_Layout_Chunks m_chunk_Pages m_extent_open m_chunk_Unmap) Try.f66 2 K))))) := by
  kernel_rfl

noncomputable def m_extent_there (l2 : T_layout_Layout) (p : Int) : Option (Bool) :=
  (bif (Decidable.decide (p ≥ 0)) then ((m_layout_Layout_Config l2).bind fun y0 => some ((Decidable.decide (p < T_api_Config.Pages y0)))) else some ((Bool.false)))

noncomputable def m_extent_Kind (nw : Nat) (cur : List Int) (l2 : T_layout_Layout) (p : Int) : Option (Int) :=
  ((m_extent_there l2 p).bind fun y0 => (bif (!y0) then some ((-1)) else ((m_layout_Layout_Kind l2 p).bind fun y1 => (bif (inR y1 nw) then some ((rd cur y1)) else none))))

noncomputable def m_extent_all (l2 : T_layout_Layout) (p : Int) (n : Int) : Option (Bool) :=
  ((m_extent_there l2 p).bind fun y0 => (bif (y0) then (bif (Decidable.decide (n ≥ 1)) then ((m_layout_Layout_Config l2).bind fun y1 => some ((Decidable.decide (n ≤ IntKind.wrap IntKind.i64 (T_api_Config.Pages y1 - p))))) else some ((Bool.false))) else some ((Bool.false))))

noncomputable def sb_extent_open_L1 (nw : Nat) (cur : List Int) (l2 : T_layout_Layout) (p : Int) (n : Int) (t16 : Int) : Option ((Int) ⊕ (Bool)) :=
  (bif (Decidable.decide (t16 < n)) then ((m_extent_Kind nw cur l2 (IntKind.wrap IntKind.i64 (p + t16))).bind fun y0 => (bif (y0 != 0) then some (.inr ((Bool.false))) else some (.inl (IntKind.wrap IntKind.i64 (t16 + 1))))) else some (.inr ((Bool.true))))

noncomputable def lp_extent_open_L1 (nw : Nat) (cur : List Int) (l2 : T_layout_Layout) (p : Int) (n : Int) (s : Int) : Option (Bool) :=
  loopO (fun s => sb_extent_open_L1 nw cur l2 p n s) s

noncomputable def m_extent_open (nw : Nat) (cur : List Int) (l2 : T_layout_Layout) (p : Int) (n : Int) : Option (Bool) :=
  ((m_extent_all l2 p n).bind fun y0 => (bif (!y0) then some ((Bool.false)) else (lp_extent_open_L1 nw cur l2 p n (0))))

noncomputable def m_extent_set (nw : Nat) (cur : List Int) (l2 : T_layout_Layout) (p : Int) (kindv : Int) (count : Int) : Option ((List Int)) :=
  ((m_layout_Layout_Kind l2 p).bind fun y0 => (bif (inR y0 nw) then ((m_layout_Layout_Count l2 p).bind fun y1 => (bif (inR y1 nw) then ((m_layout_Layout_Bits l2 p).bind fun y2 => (bif (inR y2 nw) then some ((wr (wr (wr cur y0 kindv) y1 count) y2 0)) else none)) else none)) else none))

noncomputable def m_extent_Find_1 (nw : Nat) (cur : List Int) (p : Int) (l2 : T_layout_Layout) : Option (Bool) :=
  ((m_chunk_Of p).bind fun y0 => ((m_chunk_Mapped nw cur l2 y0).bind fun y1 => some ((y1))))

noncomputable def m_extent_Find_2 (p0 : Int) : Option (Bool) :=
  some ((Bool.true))

noncomputable def sb_extent_fit_1_L2 (nw : Nat) (cur : List Int) (l2 : T_layout_Layout) (step : Int) (l3 : T_layout_Layout) (p : Int) (iv : Int) : Option ((Int) ⊕ ((Int) ⊕ (Int))) :=
  (bif (Decidable.decide (iv ≥ 0)) then ((m_extent_Kind nw cur l2 (IntKind.wrap IntKind.i64 (p + iv))).bind fun y0 => (bif (y0 != 0) then (bif (!step == 0) then some (.inr (.inl (IntKind.wrap IntKind.i64 (IntKind.wrap IntKind.i64 (IntKind.wrap IntKind.i64 (Int.tdiv (IntKind.wrap IntKind.i64 (p + iv)) step) * step) + step)))) else none) else ((m_extent_Find_1 nw cur (IntKind.wrap IntKind.i64 (p + iv)) l3).bind fun y1 => (bif (!y1) then (bif (!step == 0) then some (.inr (.inl (IntKind.wrap IntKind.i64 (IntKind.wrap IntKind.i64 (IntKind.wrap IntKind.i64 (Int.tdiv (IntKind.wrap IntKind.i64 (p + iv)) step) * step) + step)))) else none) else some (.inl (IntKind.wrap IntKind.i64 (iv - 1))))))) else some (.inr (.inr ((p)))))

noncomputable def lp_extent_fit_1_L2 (nw : Nat) (cur : List Int) (l2 : T_layout_Layout) (step : Int) (l3 : T_layout_Layout) (p : Int) (s : Int) : Option ((Int) ⊕ (Int)) :=
  loopO (fun s => sb_extent_fit_1_L2 nw cur l2 step l3 p s) s

noncomputable def sb_extent_fit_1_L1 (nw : Nat) (cur : List Int) (l2 : T_layout_Layout) (n : Int) (step : Int) (l3 : T_layout_Layout) (p : Int) : Option ((Int) ⊕ (Int)) :=
  ((m_extent_all l2 p n).bind fun y0 => (bif (y0) then (lp_extent_fit_1_L2 nw cur l2 step l3 p (IntKind.wrap IntKind.i64 (n - 1))) else some (.inr ((-1)))))

noncomputable def lp_extent_fit_1_L1 (nw : Nat) (cur : List Int) (l2 : T_layout_Layout) (n : Int) (step : Int) (l3 : T_layout_Layout) (s : Int) : Option (Int) :=
  loopO (fun s => sb_extent_fit_1_L1 nw cur l2 n step l3 s) s

noncomputable def m_extent_fit_1 (nw : Nat) (cur : List Int) (l2 : T_layout_Layout) (n : Int) (step : Int) (l3 : T_layout_Layout) : Option (Int) :=
  (lp_extent_fit_1_L1 nw cur l2 n step l3 (0))

noncomputable def sb_extent_fit_2_L2 (nw : Nat) (cur : List Int) (l2 : T_layout_Layout) (step : Int) (p : Int) (iv : Int) : Option ((Int) ⊕ ((Int) ⊕ (Int))) :=
  (bif (Decidable.decide (iv ≥ 0)) then ((m_extent_Kind nw cur l2 (IntKind.wrap IntKind.i64 (p + iv))).bind fun y0 => (bif (y0 != 0) then (bif (!step == 0) then some (.inr (.inl (IntKind.wrap IntKind.i64 (IntKind.wrap IntKind.i64 (IntKind.wrap IntKind.i64 (Int.tdiv (IntKind.wrap IntKind.i64 (p + iv)) step) * step) + step)))) else none) else ((m_extent_Find_2 (IntKind.wrap IntKind.i64 (p + iv))).bind fun y1 => (bif (!y1) then (bif (!step == 0) then some (.inr (.inl (IntKind.wrap IntKind.i64 (IntKind.wrap IntKind.i64 (IntKind.wrap IntKind.i64 (Int.tdiv (IntKind.wrap IntKind.i64 (p + iv)) step) * step) + step)))) else none) else some (.inl (IntKind.wrap IntKind.i64 (iv - 1))))))) else some (.inr (.inr ((p)))))

noncomputable def lp_extent_fit_2_L2 (nw : Nat) (cur : List Int) (l2 : T_layout_Layout) (step : Int) (p : Int) (s : Int) : Option ((Int) ⊕ (Int)) :=
  loopO (fun s => sb_extent_fit_2_L2 nw cur l2 step p s) s

noncomputable def sb_extent_fit_2_L1 (nw : Nat) (cur : List Int) (l2 : T_layout_Layout) (n : Int) (step : Int) (p : Int) : Option ((Int) ⊕ (Int)) :=
  ((m_extent_all l2 p n).bind fun y0 => (bif (y0) then (lp_extent_fit_2_L2 nw cur l2 step p (IntKind.wrap IntKind.i64 (n - 1))) else some (.inr ((-1)))))

noncomputable def lp_extent_fit_2_L1 (nw : Nat) (cur : List Int) (l2 : T_layout_Layout) (n : Int) (step : Int) (s : Int) : Option (Int) :=
  loopO (fun s => sb_extent_fit_2_L1 nw cur l2 n step s) s

noncomputable def m_extent_fit_2 (nw : Nat) (cur : List Int) (l2 : T_layout_Layout) (n : Int) (step : Int) : Option (Int) :=
  (lp_extent_fit_2_L1 nw cur l2 n step (0))

noncomputable def m_extent_Find (nw : Nat) (cur : List Int) (l2 : T_layout_Layout) (n : Int) (step : Int) : Option (Int) :=
  (bif (Decidable.decide (n < 1)) then (bif (Decidable.decide (n ≥ 1)) then (bif (Decidable.decide (step > 256)) then ((m_extent_open nw cur l2 0 n).bind fun y0 => (bif (y0) then some ((0)) else some ((-1)))) else some ((-1))) else some ((-1))) else (bif (Decidable.decide (step < 1)) then (bif (Decidable.decide (n ≥ 1)) then (bif (Decidable.decide (step > 256)) then ((m_extent_open nw cur l2 0 n).bind fun y1 => (bif (y1) then some ((0)) else some ((-1)))) else some ((-1))) else some ((-1))) else (bif (Decidable.decide (step > 256)) then (bif (Decidable.decide (n ≥ 1)) then (bif (Decidable.decide (step > 256)) then ((m_extent_open nw cur l2 0 n).bind fun y2 => (bif (y2) then some ((0)) else some ((-1)))) else some ((-1))) else some ((-1))) else ((m_extent_fit_1 nw cur l2 n step l2).bind fun y3 => (bif (y3 != -1) then some ((y3)) else ((m_extent_fit_2 nw cur l2 n step).bind fun y4 => some ((y4))))))))

noncomputable def sb_extent_Take_L1 (nw : Nat) (l2 : T_layout_Layout) (p : Int) (n : Int) (iv : Int) (cur2 : List Int) : Option ((Int × (List Int)) ⊕ (Bool × (List Int))) :=
  (bif (Decidable.decide (iv < n)) then ((m_extent_set nw cur2 l2 (IntKind.wrap IntKind.i64 (p + iv)) 7 0).bind fun y0 => some (.inl ((IntKind.wrap IntKind.i64 (iv + 1)), (y0)))) else some (.inr (((Bool.true), (cur2)))))

noncomputable def lp_extent_Take_L1 (nw : Nat) (l2 : T_layout_Layout) (p : Int) (n : Int) (s : Int × (List Int)) : Option (Bool × (List Int)) :=
  loopO (fun s => sb_extent_Take_L1 nw l2 p n s.1 s.2) s

noncomputable def m_extent_Take (nw : Nat) (cur : List Int) (l2 : T_layout_Layout) (p : Int) (n : Int) (kindv : Int) : Option (Bool × (List Int)) :=
  (bif (Decidable.decide (kindv < 1)) then some (((Bool.false), (cur))) else (bif (Decidable.decide (kindv > 6)) then some (((Bool.false), (cur))) else (bif (Decidable.decide (kindv < 6)) then (bif (n != 1) then some (((Bool.false), (cur))) else ((m_extent_open nw cur l2 p n).bind fun y0 => (bif (!y0) then some (((Bool.false), (cur))) else ((m_chunk_Ensure nw cur l2 p n).bind fun y1 => (bif (kindv == 6) then ((m_extent_set nw (Prod.snd y1) l2 p kindv n).bind fun y2 => (lp_extent_Take_L1 nw l2 p n ((1), (y2)))) else ((m_extent_set nw (Prod.snd y1) l2 p kindv 0).bind fun y3 => (lp_extent_Take_L1 nw l2 p n ((1), (y3))))))))) else ((m_extent_open nw cur l2 p n).bind fun y4 => (bif (!y4) then some (((Bool.false), (cur))) else ((m_chunk_Ensure nw cur l2 p n).bind fun y5 => (bif (kindv == 6) then ((m_extent_set nw (Prod.snd y5) l2 p kindv n).bind fun y6 => (lp_extent_Take_L1 nw l2 p n ((1), (y6)))) else ((m_extent_set nw (Prod.snd y5) l2 p kindv 0).bind fun y7 => (lp_extent_Take_L1 nw l2 p n ((1), (y7)))))))))))

noncomputable def sb_extent_length_L1 (nw : Nat) (cur : List Int) (l2 : T_layout_Layout) (p : Int) (n : Int) : Option ((Int) ⊕ (Int)) :=
  ((m_extent_Kind nw cur l2 (IntKind.wrap IntKind.i64 (p + n))).bind fun y0 => (bif (y0 == 7) then some (.inl (IntKind.wrap IntKind.i64 (n + 1))) else some (.inr ((n)))))

noncomputable def lp_extent_length_L1 (nw : Nat) (cur : List Int) (l2 : T_layout_Layout) (p : Int) (s : Int) : Option (Int) :=
  loopO (fun s => sb_extent_length_L1 nw cur l2 p s) s

noncomputable def m_extent_length (nw : Nat) (cur : List Int) (l2 : T_layout_Layout) (p : Int) : Option (Int) :=
  ((m_extent_Kind nw cur l2 p).bind fun y0 => (bif (y0 == 6) then (lp_extent_length_L1 nw cur l2 p (1)) else some ((1))))

noncomputable def sb_extent_Drop_L1 (nw : Nat) (l2 : T_layout_Layout) (p : Int) (n : Int) (t24 : Int) (t25 : Int) (cur2 : List Int) : Option ((Int × (List Int)) ⊕ (Int × (List Int))) :=
  (bif (Decidable.decide (t25 < t24)) then ((m_extent_set nw cur2 l2 (IntKind.wrap IntKind.i64 (p + t25)) 0 0).bind fun y0 => some (.inl ((IntKind.wrap IntKind.i64 (t25 + 1)), (y0)))) else some (.inr (((n), (cur2)))))

noncomputable def lp_extent_Drop_L1 (nw : Nat) (l2 : T_layout_Layout) (p : Int) (n : Int) (t24 : Int) (s : Int × (List Int)) : Option (Int × (List Int)) :=
  loopO (fun s => sb_extent_Drop_L1 nw l2 p n t24 s.1 s.2) s

noncomputable def m_extent_Drop (nw : Nat) (cur : List Int) (l2 : T_layout_Layout) (p : Int) : Option (Int × (List Int)) :=
  ((m_extent_Kind nw cur l2 p).bind fun y0 => (bif (Decidable.decide (y0 ≤ 0)) then some (((0), (cur))) else (bif (Decidable.decide (y0 ≥ 7)) then some (((0), (cur))) else ((m_extent_length nw cur l2 p).bind fun y1 => (lp_extent_Drop_L1 nw l2 p (y1) (y1) ((0), (cur)))))))

noncomputable def sb_extent_First_L1 (nw : Nat) (cur : List Int) (l2 : T_layout_Layout) (p2 : Int) : Option ((Int) ⊕ (Int)) :=
  (bif (Decidable.decide (p2 > 0)) then ((m_extent_Kind nw cur l2 p2).bind fun y0 => (bif (y0 == 7) then some (.inl (IntKind.wrap IntKind.i64 (p2 - 1))) else some (.inr ((p2))))) else some (.inr ((p2))))

noncomputable def lp_extent_First_L1 (nw : Nat) (cur : List Int) (l2 : T_layout_Layout) (s : Int) : Option (Int) :=
  loopO (fun s => sb_extent_First_L1 nw cur l2 s) s

noncomputable def m_extent_First (nw : Nat) (cur : List Int) (l2 : T_layout_Layout) (p : Int) : Option (Int) :=
  ((m_extent_Kind nw cur l2 p).bind fun y0 => (bif (Decidable.decide (y0 ≤ 0)) then some ((-1)) else (lp_extent_First_L1 nw cur l2 (p))))

noncomputable def sb_extent_Used_L1 (nw : Nat) (cur : List Int) (l2 : T_layout_Layout) (t9 : Int) (many : Int) (t10 : Int) : Option ((Int × Int) ⊕ (Int)) :=
  (bif (Decidable.decide (t10 < t9)) then ((m_extent_Kind nw cur l2 t10).bind fun y0 => (bif (y0 != 0) then some (.inl ((IntKind.wrap IntKind.i64 (many + 1)), (IntKind.wrap IntKind.i64 (t10 + 1)))) else some (.inl ((many), (IntKind.wrap IntKind.i64 (t10 + 1)))))) else some (.inr ((many))))

noncomputable def lp_extent_Used_L1 (nw : Nat) (cur : List Int) (l2 : T_layout_Layout) (t9 : Int) (s : Int × Int) : Option (Int) :=
  loopO (fun s => sb_extent_Used_L1 nw cur l2 t9 s.1 s.2) s

noncomputable def m_extent_Used (nw : Nat) (cur : List Int) (l2 : T_layout_Layout) : Option (Int) :=
  ((m_layout_Layout_Config l2).bind fun y0 => (lp_extent_Used_L1 nw cur l2 (T_api_Config.Pages y0) ((0), (0))))

noncomputable def sb_extent_Trim_L1 (nw : Nat) (l2 : T_layout_Layout) (t10 : Int) (turned : Int) (t11 : Int) (cur2 : List Int) : Option ((Int × Int × (List Int)) ⊕ (Int × (List Int))) :=
  (bif (Decidable.decide (t11 < t10)) then ((m_chunk_Pages l2 t11).bind fun y0 => ((m_extent_open nw cur2 l2 (Prod.fst y0) (Prod.snd y0)).bind fun y1 => (bif (y1) then ((m_chunk_Unmap nw cur2 l2 t11).bind fun y2 => (bif (Prod.fst y2) then some (.inl ((IntKind.wrap IntKind.i64 (turned + Prod.snd y0)), (IntKind.wrap IntKind.i64 (t11 + 1)), (Prod.snd y2))) else some (.inl ((turned), (IntKind.wrap IntKind.i64 (t11 + 1)), (Prod.snd y2))))) else some (.inl ((turned), (IntKind.wrap IntKind.i64 (t11 + 1)), (cur2)))))) else some (.inr (((turned), (cur2)))))

noncomputable def lp_extent_Trim_L1 (nw : Nat) (l2 : T_layout_Layout) (t10 : Int) (s : Int × Int × (List Int)) : Option (Int × (List Int)) :=
  loopO (fun s => sb_extent_Trim_L1 nw l2 t10 s.1 s.2.1 s.2.2) s

noncomputable def m_extent_Trim (nw : Nat) (cur : List Int) (l2 : T_layout_Layout) : Option (Int × (List Int)) :=
  ((m_layout_Layout_Chunks l2).bind fun y0 => (lp_extent_Trim_L1 nw l2 (y0) ((0), (0), (cur))))

attribute [local irreducible] Loop ex exF contK roundK retK at_ bodyOf mkEnv
theorem ok_extent_there : SpecOK Try.prog elTT 115 (sp_extent_there m_extent_there) := by
  refine spec_of_exF (cfg := (cfg_extent_there m_layout_Layout_Config)) (cfg_ok rfl rfl rfl) (sig_cons ok_layout_Layout_Config sig_nil) (fn := Try.f115) (by kernel_rfl) (by kernel_rfl) (by kernel_rfl) ?_
  intro args H K h
  change tr_extent_there m_extent_there args H K at h
  unfold tr_extent_there at h
  replace h := aC_el h
  obtain ⟨a0, _, rfl, h⟩ := h
  replace h := aC_el h
  obtain ⟨a1, _, rfl, h⟩ := h
  replace h := aN_el h
  obtain ⟨rfl, h⟩ := h
  replace h := aAgg_el h
  obtain ⟨c0, rfl, h⟩ := h
  replace h := d_layout_Layout_el h
  obtain ⟨l2, rfl, h⟩ := h
  replace h := aInt_el h
  obtain ⟨p, rfl, h⟩ := h
  replace h := aN_el h
  obtain ⟨rfl, h⟩ := h
  refine Eq.mpr (nf_extent_there m_layout_Layout_Config l2 p K) ?_
  unfold m_extent_there at h
  revert h
  exact br_So (bind_So fun y0 => fun h => h) (fun h => h)

theorem ok_extent_Kind : SpecOK Try.prog elTT 62 (sp_extent_Kind m_extent_Kind) := by
  refine spec_of_exF (cfg := (cfg_extent_Kind m_extent_there m_layout_Layout_Kind)) (cfg_ok rfl rfl rfl) (sig_cons ok_extent_there (sig_cons ok_layout_Layout_Kind (sig_cons rd_ok sig_nil))) (fn := Try.f62) (by kernel_rfl) (by kernel_rfl) (by kernel_rfl) ?_
  intro args H K h
  change tr_extent_Kind m_extent_Kind args H K at h
  unfold tr_extent_Kind at h
  replace h := aC_el h
  obtain ⟨a0, _, rfl, h⟩ := h
  replace h := aC_el h
  obtain ⟨a1, _, rfl, h⟩ := h
  replace h := aC_el h
  obtain ⟨a2, _, rfl, h⟩ := h
  replace h := aN_el h
  obtain ⟨rfl, h⟩ := h
  replace h := aPtr_el h
  obtain ⟨rfl, h⟩ := h
  replace h := aAgg_el h
  obtain ⟨c1, rfl, h⟩ := h
  replace h := d_layout_Layout_el h
  obtain ⟨l2, rfl, h⟩ := h
  replace h := aInt_el h
  obtain ⟨p, rfl, h⟩ := h
  replace h := aC_el h
  obtain ⟨b0, _, rfl, h⟩ := h
  replace h := aC_el h
  obtain ⟨b1, _, rfl, h⟩ := h
  replace h := aN_el h
  obtain ⟨rfl, h⟩ := h
  replace h := bView_el h
  obtain ⟨ws, cur, xs, rfl, h⟩ := h
  replace h := bRow_el h
  obtain ⟨(l : List Int), rfl, h⟩ := h
  obtain ⟨rfl, hx, h⟩ := h
  refine Eq.mpr (nf_extent_Kind m_extent_there m_layout_Layout_Kind ws cur xs l2 p K) ?_
  unfold m_extent_Kind at h
  revert h
  exact bind_So fun y0 => br_So (fun h => h) (bind_So fun y1 => and_So (by first | exact rfl | assumption | exact trivial | omega) (and_So (by first | exact rfl | assumption | exact trivial | omega) (req_So (fun h => h))))

theorem ok_extent_all : SpecOK Try.prog elTT 146 (sp_extent_all m_extent_all) := by
  refine spec_of_exF (cfg := (cfg_extent_all m_extent_there m_layout_Layout_Config)) (cfg_ok rfl rfl rfl) (sig_cons ok_extent_there (sig_cons ok_layout_Layout_Config sig_nil)) (fn := Try.f146) (by kernel_rfl) (by kernel_rfl) (by kernel_rfl) ?_
  intro args H K h
  change tr_extent_all m_extent_all args H K at h
  unfold tr_extent_all at h
  replace h := aC_el h
  obtain ⟨a0, _, rfl, h⟩ := h
  replace h := aC_el h
  obtain ⟨a1, _, rfl, h⟩ := h
  replace h := aC_el h
  obtain ⟨a2, _, rfl, h⟩ := h
  replace h := aN_el h
  obtain ⟨rfl, h⟩ := h
  replace h := aAgg_el h
  obtain ⟨c0, rfl, h⟩ := h
  replace h := d_layout_Layout_el h
  obtain ⟨l2, rfl, h⟩ := h
  replace h := aInt_el h
  obtain ⟨p, rfl, h⟩ := h
  replace h := aInt_el h
  obtain ⟨n, rfl, h⟩ := h
  replace h := aN_el h
  obtain ⟨rfl, h⟩ := h
  refine Eq.mpr (nf_extent_all m_extent_there m_layout_Layout_Config l2 p n K) ?_
  unfold m_extent_all at h
  revert h
  exact bind_So fun y0 => br_So (br_So (bind_So fun y1 => fun h => h) (fun h => h)) (fun h => h)

theorem lpok_extent_open_L1 (ws : List Int) (cur : List Int) (xs : List Value) (l2 : T_layout_Layout) (p : Int) (n : Int) (t16 : Int) (K : V → Heap → Prop) (hx : xs.length ≤ 2) : So (lp_extent_open_L1 (ws.length) (cur) (l2) (p) (n) t16) (fun (x : Bool) => K (vb (x)) [.pk 0 [ws, cur] xs [.row 1], .row 0 ws true]) → Loop (cfg_extent_open m_extent_all m_extent_Kind) (⟨27, 2⟩ : Cx) (at_ (bodyOf Try.f109) [1, 1, 0, 1, 0, 0]) (mkEnv [(0, .ptr 0 0), (2, vi (p)), (5, .ptr 2 0), (15, vi (n)), (16, vi (t16))]) [.pk 0 [ws, cur] (xs) [.row 1], .row 0 (ws : List (Int)) Bool.true, .cells 28 (e_layout_Layout l2)] (contK (cfg_extent_open m_extent_all m_extent_Kind) (⟨27, 2⟩ : Cx) (bodyOf Try.f109) [1, 1, 0, 1, 0] (retK (cfg_extent_open m_extent_all m_extent_Kind) Try.f109 2 K)) := by
  refine loopK_So (fun (s_ : Int) => (mkEnv [(0, .ptr 0 0), (2, vi (p)), (5, .ptr 2 0), (15, vi (n)), (16, vi ((s_)))])) (fun (s_ : Int) => [.pk 0 [ws, cur] (xs) [.row 1], .row 0 (ws : List (Int)) Bool.true, .cells 28 (e_layout_Layout l2)]) (fun (x : Bool) => K (vb (x)) [.pk 0 [ws, cur] xs [.row 1], .row 0 ws true]) ?_ t16
  intro s_ J1 h
  clear t16
  revert h; revert s_; intro t16 h
  refine Eq.mpr (nf_extent_open_L1 m_extent_all m_extent_Kind ws cur xs l2 p n t16 K J1) ?_
  have h : So (sb_extent_open_L1 (ws.length) (cur) (l2) (p) (n) t16) _ := h
  unfold sb_extent_open_L1 at h
  revert h
  exact br_So (and_So (by first | exact rfl | assumption | exact trivial | omega) (and_So (by first | exact rfl | assumption | exact trivial | omega) (bind_So fun y0 => br_So (fun h => h) (fun h => h)))) (fun h => h)

theorem ok_extent_open : SpecOK Try.prog elTT 109 (sp_extent_open m_extent_open) := by
  refine spec_of_exF (cfg := (cfg_extent_open m_extent_all m_extent_Kind)) (cfg_ok rfl rfl rfl) (sig_cons ok_extent_all (sig_cons ok_extent_Kind sig_nil)) (fn := Try.f109) (by kernel_rfl) (by kernel_rfl) (by kernel_rfl) ?_
  intro args H K h
  change tr_extent_open m_extent_open args H K at h
  unfold tr_extent_open at h
  replace h := aC_el h
  obtain ⟨a0, _, rfl, h⟩ := h
  replace h := aC_el h
  obtain ⟨a1, _, rfl, h⟩ := h
  replace h := aC_el h
  obtain ⟨a2, _, rfl, h⟩ := h
  replace h := aC_el h
  obtain ⟨a3, _, rfl, h⟩ := h
  replace h := aN_el h
  obtain ⟨rfl, h⟩ := h
  replace h := aPtr_el h
  obtain ⟨rfl, h⟩ := h
  replace h := aAgg_el h
  obtain ⟨c1, rfl, h⟩ := h
  replace h := d_layout_Layout_el h
  obtain ⟨l2, rfl, h⟩ := h
  replace h := aInt_el h
  obtain ⟨p, rfl, h⟩ := h
  replace h := aInt_el h
  obtain ⟨n, rfl, h⟩ := h
  replace h := aC_el h
  obtain ⟨b0, _, rfl, h⟩ := h
  replace h := aC_el h
  obtain ⟨b1, _, rfl, h⟩ := h
  replace h := aN_el h
  obtain ⟨rfl, h⟩ := h
  replace h := bView_el h
  obtain ⟨ws, cur, xs, rfl, h⟩ := h
  replace h := bRow_el h
  obtain ⟨(l : List Int), rfl, h⟩ := h
  obtain ⟨rfl, hx, h⟩ := h
  refine Eq.mpr (nf_extent_open m_extent_all m_extent_Kind ws cur xs l2 p n K) ?_
  unfold m_extent_open at h
  revert h
  exact bind_So fun y0 => br_So (fun h => h) (lpok_extent_open_L1 ws cur xs l2 p n (0) K hx)

theorem ok_extent_set : SpecOK Try.prog elTT 114 (sp_extent_set m_extent_set) := by
  refine spec_of_exF (cfg := (cfg_extent_set m_layout_Layout_Kind m_layout_Layout_Count m_layout_Layout_Bits)) (cfg_ok rfl rfl rfl) (sig_cons ok_layout_Layout_Kind (sig_cons wr_ok (sig_cons ok_layout_Layout_Count (sig_cons ok_layout_Layout_Bits sig_nil)))) (fn := Try.f114) (by kernel_rfl) (by kernel_rfl) (by kernel_rfl) ?_
  intro args H K h
  change tr_extent_set m_extent_set args H K at h
  unfold tr_extent_set at h
  replace h := aC_el h
  obtain ⟨a0, _, rfl, h⟩ := h
  replace h := aC_el h
  obtain ⟨a1, _, rfl, h⟩ := h
  replace h := aC_el h
  obtain ⟨a2, _, rfl, h⟩ := h
  replace h := aC_el h
  obtain ⟨a3, _, rfl, h⟩ := h
  replace h := aC_el h
  obtain ⟨a4, _, rfl, h⟩ := h
  replace h := aN_el h
  obtain ⟨rfl, h⟩ := h
  replace h := aPtr_el h
  obtain ⟨rfl, h⟩ := h
  replace h := aAgg_el h
  obtain ⟨c1, rfl, h⟩ := h
  replace h := d_layout_Layout_el h
  obtain ⟨l2, rfl, h⟩ := h
  replace h := aInt_el h
  obtain ⟨p, rfl, h⟩ := h
  replace h := aInt_el h
  obtain ⟨kindv, rfl, h⟩ := h
  replace h := aInt_el h
  obtain ⟨count, rfl, h⟩ := h
  replace h := aC_el h
  obtain ⟨b0, _, rfl, h⟩ := h
  replace h := aC_el h
  obtain ⟨b1, _, rfl, h⟩ := h
  replace h := aN_el h
  obtain ⟨rfl, h⟩ := h
  replace h := bView_el h
  obtain ⟨ws, cur, xs, rfl, h⟩ := h
  replace h := bRow_el h
  obtain ⟨(l : List Int), rfl, h⟩ := h
  obtain ⟨rfl, hx, h⟩ := h
  refine Eq.mpr (nf_extent_set m_layout_Layout_Kind m_layout_Layout_Count m_layout_Layout_Bits ws cur xs l2 p kindv count K) ?_
  unfold m_extent_set at h
  revert h
  exact bind_So fun y0 => and_So (by first | exact rfl | assumption | exact trivial | omega) (and_So (by first | exact rfl | assumption | exact trivial | omega) (req_So (bind_So fun y1 => and_So (by first | exact rfl | assumption | exact trivial | omega) (and_So (by first | exact rfl | assumption | exact trivial | omega) (req_So (bind_So fun y2 => and_So (by first | exact rfl | assumption | exact trivial | omega) (and_So (by first | exact rfl | assumption | exact trivial | omega) (req_So (fun h => h)))))))))

theorem ok_extent_Find_1 : SpecOK Try.prog elTT 110 (sp_extent_Find_1 m_extent_Find_1) := by
  refine spec_of_exF (cfg := (cfg_extent_Find_1 m_chunk_Of m_chunk_Mapped)) (cfg_ok rfl rfl rfl) (sig_cons ok_chunk_Of (sig_cons ok_chunk_Mapped sig_nil)) (fn := Try.f110) (by kernel_rfl) (by kernel_rfl) (by kernel_rfl) ?_
  intro args H K h
  change tr_extent_Find_1 m_extent_Find_1 args H K at h
  unfold tr_extent_Find_1 at h
  replace h := aC_el h
  obtain ⟨a0, _, rfl, h⟩ := h
  replace h := aC_el h
  obtain ⟨a1, _, rfl, h⟩ := h
  replace h := aC_el h
  obtain ⟨a2, _, rfl, h⟩ := h
  replace h := aN_el h
  obtain ⟨rfl, h⟩ := h
  replace h := aInt_el h
  obtain ⟨p, rfl, h⟩ := h
  replace h := aPtr_el h
  obtain ⟨rfl, h⟩ := h
  replace h := aPtr_el h
  obtain ⟨rfl, h⟩ := h
  replace h := aC_el h
  obtain ⟨b0, _, rfl, h⟩ := h
  replace h := aC_el h
  obtain ⟨b1, _, rfl, h⟩ := h
  replace h := aC_el h
  obtain ⟨b2, _, rfl, h⟩ := h
  replace h := aC_el h
  obtain ⟨b3, _, rfl, h⟩ := h
  replace h := aN_el h
  obtain ⟨rfl, h⟩ := h
  replace h := bCells_el h
  obtain ⟨U, c0, rfl, h⟩ := h
  replace h := aC_el h
  obtain ⟨d0_0, _, rfl, h⟩ := h
  replace h := aPtr_el h
  obtain ⟨rfl, h⟩ := h
  replace h := aN_el h
  obtain ⟨rfl, h⟩ := h
  replace h := bCells_el h
  obtain ⟨U2, c1, rfl, h⟩ := h
  replace h := d_layout_Layout_el h
  obtain ⟨l2, rfl, h⟩ := h
  replace h := bView_el h
  obtain ⟨ws, cur, xs, rfl, h⟩ := h
  replace h := bRow_el h
  obtain ⟨(l : List Int), rfl, h⟩ := h
  obtain ⟨rfl, hx, h⟩ := h
  refine Eq.mpr (nf_extent_Find_1 m_chunk_Of m_chunk_Mapped ws cur xs p l2 U U2 K) ?_
  unfold m_extent_Find_1 at h
  revert h
  exact bind_So fun y0 => and_So (by first | exact rfl | assumption | exact trivial | omega) (and_So (by first | exact rfl | assumption | exact trivial | omega) (bind_So fun y1 => fun h => h))

theorem ok_extent_Find_2 : SpecOK Try.prog elTT 113 (sp_extent_Find_2 m_extent_Find_2) := by
  refine spec_of_exF (cfg := cfg_extent_Find_2) (cfg_ok rfl rfl rfl) sig_nil (fn := Try.f113) (by kernel_rfl) (by kernel_rfl) (by kernel_rfl) ?_
  intro args H K h
  change tr_extent_Find_2 m_extent_Find_2 args H K at h
  unfold tr_extent_Find_2 at h
  replace h := aC_el h
  obtain ⟨a0, _, rfl, h⟩ := h
  replace h := aN_el h
  obtain ⟨rfl, h⟩ := h
  replace h := aInt_el h
  obtain ⟨p0, rfl, h⟩ := h
  replace h := aN_el h
  obtain ⟨rfl, h⟩ := h
  refine Eq.mpr (nf_extent_Find_2 p0 K) ?_
  unfold m_extent_Find_2 at h
  revert h
  exact fun h => h

theorem lpok_extent_fit_1_L2 (ws : List Int) (cur : List Int) (xs : List Value) (l2 : T_layout_Layout) (n : Int) (step : Int) (l3 : T_layout_Layout) (U : TypeId) (U2 : TypeId) (p : Int) (iv : Int) (K : V → Heap → Prop) (J1 : Env → Heap → Prop) (hx : xs.length ≤ 2) : So (lp_extent_fit_1_L2 (ws.length) (cur) (l2) (step) (l3) (p) iv) (sumK (fun (s_ : Int) => J1 (mkEnv [(0, .ptr 0 0), (2, vi (n)), (3, vi (step)), (4, .fn 110 [.ptr 1 0, .ptr 2 0]), (6, .ptr 4 0), (11, vi ((s_)))]) [.pk 0 [ws, cur] (xs) [.row 3], .cells U [.ptr 0 0], .cells U2 (e_layout_Layout l3), .row 0 (ws : List (Int)) Bool.true, .cells 28 (e_layout_Layout l2)]) (fun (x : Int) => K (vi (x)) [.pk 0 [ws, cur] xs [.row 3], .cells U [.ptr 0 0], .cells U2 (e_layout_Layout l3), .row 0 ws true])) → Loop (cfg_extent_fit_1 m_extent_all m_extent_Kind m_extent_Find_1) (⟨48, 4⟩ : Cx) (at_ (bodyOf Try.f112) [1, 0, 1, 1, 0, 0, 0, 1, 0, 0, 1, 0, 0]) (mkEnv [(0, .ptr 0 0), (2, vi (n)), (3, vi (step)), (4, .fn 110 [.ptr 1 0, .ptr 2 0]), (6, .ptr 4 0), (11, vi (p)), (12, vi (iv))]) [.pk 0 [ws, cur] (xs) [.row 3], .cells U [.ptr 0 0], .cells U2 (e_layout_Layout l3), .row 0 (ws : List (Int)) Bool.true, .cells 28 (e_layout_Layout l2)] (contK (cfg_extent_fit_1 m_extent_all m_extent_Kind m_extent_Find_1) (⟨48, 4⟩ : Cx) (at_ (bodyOf Try.f112) [1, 0, 1, 1, 0, 0, 0]) [1, 0, 0, 1, 0] (roundK (cfg_extent_fit_1 m_extent_all m_extent_Kind m_extent_Find_1) (⟨48, 4⟩ : Cx) (at_ (bodyOf Try.f112) [1, 0, 1, 1, 0, 0, 0]) (contK (cfg_extent_fit_1 m_extent_all m_extent_Kind m_extent_Find_1) (⟨48, 4⟩ : Cx) (bodyOf Try.f112) [1, 0, 1, 1, 0, 0] (retK (cfg_extent_fit_1 m_extent_all m_extent_Kind m_extent_Find_1) Try.f112 4 K)) J1)) := by
  refine loopK_So (fun (s_ : Int) => (mkEnv [(0, .ptr 0 0), (2, vi (n)), (3, vi (step)), (4, .fn 110 [.ptr 1 0, .ptr 2 0]), (6, .ptr 4 0), (11, vi (p)), (12, vi ((s_)))])) (fun (s_ : Int) => [.pk 0 [ws, cur] (xs) [.row 3], .cells U [.ptr 0 0], .cells U2 (e_layout_Layout l3), .row 0 (ws : List (Int)) Bool.true, .cells 28 (e_layout_Layout l2)]) (sumK (fun (s_ : Int) => J1 (mkEnv [(0, .ptr 0 0), (2, vi (n)), (3, vi (step)), (4, .fn 110 [.ptr 1 0, .ptr 2 0]), (6, .ptr 4 0), (11, vi ((s_)))]) [.pk 0 [ws, cur] (xs) [.row 3], .cells U [.ptr 0 0], .cells U2 (e_layout_Layout l3), .row 0 (ws : List (Int)) Bool.true, .cells 28 (e_layout_Layout l2)]) (fun (x : Int) => K (vi (x)) [.pk 0 [ws, cur] xs [.row 3], .cells U [.ptr 0 0], .cells U2 (e_layout_Layout l3), .row 0 ws true])) ?_ iv
  intro s_ J2 h
  clear iv
  revert h; revert s_; intro iv h
  refine Eq.mpr (nf_extent_fit_1_L2 m_extent_all m_extent_Kind m_extent_Find_1 ws cur xs l2 n step l3 U U2 p iv K J1 J2) ?_
  have h : So (sb_extent_fit_1_L2 (ws.length) (cur) (l2) (step) (l3) (p) iv) _ := h
  unfold sb_extent_fit_1_L2 at h
  revert h
  exact br_So (and_So (by first | exact rfl | assumption | exact trivial | omega) (and_So (by first | exact rfl | assumption | exact trivial | omega) (bind_So fun y0 => br_So (req_So (fun h => h)) (and_So (by first | exact rfl | assumption | exact trivial | omega) (and_So (by first | exact rfl | assumption | exact trivial | omega) (bind_So fun y1 => br_So (req_So (fun h => h)) (fun h => h))))))) (fun h => h)

theorem lpok_extent_fit_1_L1 (ws : List Int) (cur : List Int) (xs : List Value) (l2 : T_layout_Layout) (n : Int) (step : Int) (l3 : T_layout_Layout) (U : TypeId) (U2 : TypeId) (p : Int) (K : V → Heap → Prop) (hx : xs.length ≤ 2) : So (lp_extent_fit_1_L1 (ws.length) (cur) (l2) (n) (step) (l3) p) (fun (x : Int) => K (vi (x)) [.pk 0 [ws, cur] xs [.row 3], .cells U [.ptr 0 0], .cells U2 (e_layout_Layout l3), .row 0 ws true]) → Loop (cfg_extent_fit_1 m_extent_all m_extent_Kind m_extent_Find_1) (⟨48, 4⟩ : Cx) (at_ (bodyOf Try.f112) [1, 0, 1, 1, 0, 0, 0]) (mkEnv [(0, .ptr 0 0), (2, vi (n)), (3, vi (step)), (4, .fn 110 [.ptr 1 0, .ptr 2 0]), (6, .ptr 4 0), (11, vi (p))]) [.pk 0 [ws, cur] (xs) [.row 3], .cells U [.ptr 0 0], .cells U2 (e_layout_Layout l3), .row 0 (ws : List (Int)) Bool.true, .cells 28 (e_layout_Layout l2)] (contK (cfg_extent_fit_1 m_extent_all m_extent_Kind m_extent_Find_1) (⟨48, 4⟩ : Cx) (bodyOf Try.f112) [1, 0, 1, 1, 0, 0] (retK (cfg_extent_fit_1 m_extent_all m_extent_Kind m_extent_Find_1) Try.f112 4 K)) := by
  refine loopK_So (fun (s_ : Int) => (mkEnv [(0, .ptr 0 0), (2, vi (n)), (3, vi (step)), (4, .fn 110 [.ptr 1 0, .ptr 2 0]), (6, .ptr 4 0), (11, vi ((s_)))])) (fun (s_ : Int) => [.pk 0 [ws, cur] (xs) [.row 3], .cells U [.ptr 0 0], .cells U2 (e_layout_Layout l3), .row 0 (ws : List (Int)) Bool.true, .cells 28 (e_layout_Layout l2)]) (fun (x : Int) => K (vi (x)) [.pk 0 [ws, cur] xs [.row 3], .cells U [.ptr 0 0], .cells U2 (e_layout_Layout l3), .row 0 ws true]) ?_ p
  intro s_ J1 h
  clear p
  revert h; revert s_; intro p h
  refine Eq.mpr (nf_extent_fit_1_L1 m_extent_all m_extent_Kind m_extent_Find_1 ws cur xs l2 n step l3 U U2 p K J1) ?_
  have h : So (sb_extent_fit_1_L1 (ws.length) (cur) (l2) (n) (step) (l3) p) _ := h
  unfold sb_extent_fit_1_L1 at h
  revert h
  exact bind_So fun y0 => br_So (lpok_extent_fit_1_L2 ws cur xs l2 n step l3 U U2 p (IntKind.wrap IntKind.i64 (n - 1)) K J1 hx) (fun h => h)

theorem ok_extent_fit_1 : SpecOK Try.prog elTT 112 (sp_extent_fit_1 m_extent_fit_1) := by
  refine spec_of_exF (cfg := (cfg_extent_fit_1 m_extent_all m_extent_Kind m_extent_Find_1)) (cfg_ok rfl rfl rfl) (sig_cons ok_extent_all (sig_cons ok_extent_Kind (sig_cons ok_extent_Find_1 sig_nil))) (fn := Try.f112) (by kernel_rfl) (by kernel_rfl) (by kernel_rfl) ?_
  intro args H K h
  change tr_extent_fit_1 m_extent_fit_1 args H K at h
  unfold tr_extent_fit_1 at h
  replace h := aC_el h
  obtain ⟨a0, _, rfl, h⟩ := h
  replace h := aC_el h
  obtain ⟨a1, _, rfl, h⟩ := h
  replace h := aC_el h
  obtain ⟨a2, _, rfl, h⟩ := h
  replace h := aC_el h
  obtain ⟨a3, _, rfl, h⟩ := h
  replace h := aC_el h
  obtain ⟨a4, _, rfl, h⟩ := h
  replace h := aN_el h
  obtain ⟨rfl, h⟩ := h
  replace h := aPtr_el h
  obtain ⟨rfl, h⟩ := h
  replace h := aAgg_el h
  obtain ⟨c1, rfl, h⟩ := h
  replace h := d_layout_Layout_el h
  obtain ⟨l2, rfl, h⟩ := h
  replace h := aInt_el h
  obtain ⟨n, rfl, h⟩ := h
  replace h := aInt_el h
  obtain ⟨step, rfl, h⟩ := h
  replace h := aFn_el h
  obtain ⟨fc4, rfl, h⟩ := h
  replace h := aC_el h
  obtain ⟨fp4_0, _, rfl, h⟩ := h
  replace h := aPtr_el h
  obtain ⟨rfl, h⟩ := h
  replace h := aC_el h
  obtain ⟨fp4_1, _, rfl, h⟩ := h
  replace h := aPtr_el h
  obtain ⟨rfl, h⟩ := h
  replace h := aN_el h
  obtain ⟨rfl, h⟩ := h
  replace h := aC_el h
  obtain ⟨b0, _, rfl, h⟩ := h
  replace h := aC_el h
  obtain ⟨b1, _, rfl, h⟩ := h
  replace h := aC_el h
  obtain ⟨b2, _, rfl, h⟩ := h
  replace h := aC_el h
  obtain ⟨b3, _, rfl, h⟩ := h
  replace h := aN_el h
  obtain ⟨rfl, h⟩ := h
  replace h := bView_el h
  obtain ⟨ws, cur, xs, rfl, h⟩ := h
  replace h := bCells_el h
  obtain ⟨U, c1, rfl, h⟩ := h
  replace h := aC_el h
  obtain ⟨d1_0, _, rfl, h⟩ := h
  replace h := aPtr_el h
  obtain ⟨rfl, h⟩ := h
  replace h := aN_el h
  obtain ⟨rfl, h⟩ := h
  replace h := bCells_el h
  obtain ⟨U2, c2, rfl, h⟩ := h
  replace h := d_layout_Layout_el h
  obtain ⟨l3, rfl, h⟩ := h
  replace h := bRow_el h
  obtain ⟨(l : List Int), rfl, h⟩ := h
  obtain ⟨rfl, hx, h⟩ := h
  refine Eq.mpr (nf_extent_fit_1 m_extent_all m_extent_Kind m_extent_Find_1 ws cur xs l2 n step l3 U U2 K) ?_
  unfold m_extent_fit_1 at h
  revert h
  exact lpok_extent_fit_1_L1 ws cur xs l2 n step l3 U U2 (0) K hx

theorem lpok_extent_fit_2_L2 (ws : List Int) (cur : List Int) (xs : List Value) (l2 : T_layout_Layout) (n : Int) (step : Int) (p : Int) (iv : Int) (K : V → Heap → Prop) (J1 : Env → Heap → Prop) (hx : xs.length ≤ 2) : So (lp_extent_fit_2_L2 (ws.length) (cur) (l2) (step) (p) iv) (sumK (fun (s_ : Int) => J1 (mkEnv [(0, .ptr 0 0), (2, vi (n)), (3, vi (step)), (4, .fn 113 []), (6, .ptr 2 0), (11, vi ((s_)))]) [.pk 0 [ws, cur] (xs) [.row 1], .row 0 (ws : List (Int)) Bool.true, .cells 28 (e_layout_Layout l2)]) (fun (x : Int) => K (vi (x)) [.pk 0 [ws, cur] xs [.row 1], .row 0 ws true])) → Loop (cfg_extent_fit_2 m_extent_all m_extent_Kind m_extent_Find_2) (⟨48, 2⟩ : Cx) (at_ (bodyOf Try.f112) [1, 0, 1, 1, 0, 0, 0, 1, 0, 0, 1, 0, 0]) (mkEnv [(0, .ptr 0 0), (2, vi (n)), (3, vi (step)), (4, .fn 113 []), (6, .ptr 2 0), (11, vi (p)), (12, vi (iv))]) [.pk 0 [ws, cur] (xs) [.row 1], .row 0 (ws : List (Int)) Bool.true, .cells 28 (e_layout_Layout l2)] (contK (cfg_extent_fit_2 m_extent_all m_extent_Kind m_extent_Find_2) (⟨48, 2⟩ : Cx) (at_ (bodyOf Try.f112) [1, 0, 1, 1, 0, 0, 0]) [1, 0, 0, 1, 0] (roundK (cfg_extent_fit_2 m_extent_all m_extent_Kind m_extent_Find_2) (⟨48, 2⟩ : Cx) (at_ (bodyOf Try.f112) [1, 0, 1, 1, 0, 0, 0]) (contK (cfg_extent_fit_2 m_extent_all m_extent_Kind m_extent_Find_2) (⟨48, 2⟩ : Cx) (bodyOf Try.f112) [1, 0, 1, 1, 0, 0] (retK (cfg_extent_fit_2 m_extent_all m_extent_Kind m_extent_Find_2) Try.f112 2 K)) J1)) := by
  refine loopK_So (fun (s_ : Int) => (mkEnv [(0, .ptr 0 0), (2, vi (n)), (3, vi (step)), (4, .fn 113 []), (6, .ptr 2 0), (11, vi (p)), (12, vi ((s_)))])) (fun (s_ : Int) => [.pk 0 [ws, cur] (xs) [.row 1], .row 0 (ws : List (Int)) Bool.true, .cells 28 (e_layout_Layout l2)]) (sumK (fun (s_ : Int) => J1 (mkEnv [(0, .ptr 0 0), (2, vi (n)), (3, vi (step)), (4, .fn 113 []), (6, .ptr 2 0), (11, vi ((s_)))]) [.pk 0 [ws, cur] (xs) [.row 1], .row 0 (ws : List (Int)) Bool.true, .cells 28 (e_layout_Layout l2)]) (fun (x : Int) => K (vi (x)) [.pk 0 [ws, cur] xs [.row 1], .row 0 ws true])) ?_ iv
  intro s_ J2 h
  clear iv
  revert h; revert s_; intro iv h
  refine Eq.mpr (nf_extent_fit_2_L2 m_extent_all m_extent_Kind m_extent_Find_2 ws cur xs l2 n step p iv K J1 J2) ?_
  have h : So (sb_extent_fit_2_L2 (ws.length) (cur) (l2) (step) (p) iv) _ := h
  unfold sb_extent_fit_2_L2 at h
  revert h
  exact br_So (and_So (by first | exact rfl | assumption | exact trivial | omega) (and_So (by first | exact rfl | assumption | exact trivial | omega) (bind_So fun y0 => br_So (req_So (fun h => h)) (bind_So fun y1 => br_So (req_So (fun h => h)) (fun h => h))))) (fun h => h)

theorem lpok_extent_fit_2_L1 (ws : List Int) (cur : List Int) (xs : List Value) (l2 : T_layout_Layout) (n : Int) (step : Int) (p : Int) (K : V → Heap → Prop) (hx : xs.length ≤ 2) : So (lp_extent_fit_2_L1 (ws.length) (cur) (l2) (n) (step) p) (fun (x : Int) => K (vi (x)) [.pk 0 [ws, cur] xs [.row 1], .row 0 ws true]) → Loop (cfg_extent_fit_2 m_extent_all m_extent_Kind m_extent_Find_2) (⟨48, 2⟩ : Cx) (at_ (bodyOf Try.f112) [1, 0, 1, 1, 0, 0, 0]) (mkEnv [(0, .ptr 0 0), (2, vi (n)), (3, vi (step)), (4, .fn 113 []), (6, .ptr 2 0), (11, vi (p))]) [.pk 0 [ws, cur] (xs) [.row 1], .row 0 (ws : List (Int)) Bool.true, .cells 28 (e_layout_Layout l2)] (contK (cfg_extent_fit_2 m_extent_all m_extent_Kind m_extent_Find_2) (⟨48, 2⟩ : Cx) (bodyOf Try.f112) [1, 0, 1, 1, 0, 0] (retK (cfg_extent_fit_2 m_extent_all m_extent_Kind m_extent_Find_2) Try.f112 2 K)) := by
  refine loopK_So (fun (s_ : Int) => (mkEnv [(0, .ptr 0 0), (2, vi (n)), (3, vi (step)), (4, .fn 113 []), (6, .ptr 2 0), (11, vi ((s_)))])) (fun (s_ : Int) => [.pk 0 [ws, cur] (xs) [.row 1], .row 0 (ws : List (Int)) Bool.true, .cells 28 (e_layout_Layout l2)]) (fun (x : Int) => K (vi (x)) [.pk 0 [ws, cur] xs [.row 1], .row 0 ws true]) ?_ p
  intro s_ J1 h
  clear p
  revert h; revert s_; intro p h
  refine Eq.mpr (nf_extent_fit_2_L1 m_extent_all m_extent_Kind m_extent_Find_2 ws cur xs l2 n step p K J1) ?_
  have h : So (sb_extent_fit_2_L1 (ws.length) (cur) (l2) (n) (step) p) _ := h
  unfold sb_extent_fit_2_L1 at h
  revert h
  exact bind_So fun y0 => br_So (lpok_extent_fit_2_L2 ws cur xs l2 n step p (IntKind.wrap IntKind.i64 (n - 1)) K J1 hx) (fun h => h)

theorem ok_extent_fit_2 : SpecOK Try.prog elTT 112 (sp_extent_fit_2 m_extent_fit_2) := by
  refine spec_of_exF (cfg := (cfg_extent_fit_2 m_extent_all m_extent_Kind m_extent_Find_2)) (cfg_ok rfl rfl rfl) (sig_cons ok_extent_all (sig_cons ok_extent_Kind (sig_cons ok_extent_Find_2 sig_nil))) (fn := Try.f112) (by kernel_rfl) (by kernel_rfl) (by kernel_rfl) ?_
  intro args H K h
  change tr_extent_fit_2 m_extent_fit_2 args H K at h
  unfold tr_extent_fit_2 at h
  replace h := aC_el h
  obtain ⟨a0, _, rfl, h⟩ := h
  replace h := aC_el h
  obtain ⟨a1, _, rfl, h⟩ := h
  replace h := aC_el h
  obtain ⟨a2, _, rfl, h⟩ := h
  replace h := aC_el h
  obtain ⟨a3, _, rfl, h⟩ := h
  replace h := aC_el h
  obtain ⟨a4, _, rfl, h⟩ := h
  replace h := aN_el h
  obtain ⟨rfl, h⟩ := h
  replace h := aPtr_el h
  obtain ⟨rfl, h⟩ := h
  replace h := aAgg_el h
  obtain ⟨c1, rfl, h⟩ := h
  replace h := d_layout_Layout_el h
  obtain ⟨l2, rfl, h⟩ := h
  replace h := aInt_el h
  obtain ⟨n, rfl, h⟩ := h
  replace h := aInt_el h
  obtain ⟨step, rfl, h⟩ := h
  replace h := aFn_el h
  obtain ⟨fc4, rfl, h⟩ := h
  replace h := aN_el h
  obtain ⟨rfl, h⟩ := h
  replace h := aC_el h
  obtain ⟨b0, _, rfl, h⟩ := h
  replace h := aC_el h
  obtain ⟨b1, _, rfl, h⟩ := h
  replace h := aN_el h
  obtain ⟨rfl, h⟩ := h
  replace h := bView_el h
  obtain ⟨ws, cur, xs, rfl, h⟩ := h
  replace h := bRow_el h
  obtain ⟨(l : List Int), rfl, h⟩ := h
  obtain ⟨rfl, hx, h⟩ := h
  refine Eq.mpr (nf_extent_fit_2 m_extent_all m_extent_Kind m_extent_Find_2 ws cur xs l2 n step K) ?_
  unfold m_extent_fit_2 at h
  revert h
  exact lpok_extent_fit_2_L1 ws cur xs l2 n step (0) K hx

theorem ok_extent_Find : SpecOK Try.prog elTT 57 (sp_extent_Find m_extent_Find) := by
  refine spec_of_exF (cfg := (cfg_extent_Find m_extent_open m_extent_Find_1 m_extent_fit_1 m_extent_fit_2 m_extent_Find_2)) (cfg_ok rfl rfl rfl) (sig_cons ok_extent_open (sig_cons ok_extent_Find_1 (sig_cons (altP_ok ok_extent_fit_2 ok_extent_fit_1) (sig_cons ok_extent_Find_2 sig_nil)))) (fn := Try.f57) (by kernel_rfl) (by kernel_rfl) (by kernel_rfl) ?_
  intro args H K h
  change tr_extent_Find m_extent_Find args H K at h
  unfold tr_extent_Find at h
  replace h := aC_el h
  obtain ⟨a0, _, rfl, h⟩ := h
  replace h := aC_el h
  obtain ⟨a1, _, rfl, h⟩ := h
  replace h := aC_el h
  obtain ⟨a2, _, rfl, h⟩ := h
  replace h := aC_el h
  obtain ⟨a3, _, rfl, h⟩ := h
  replace h := aN_el h
  obtain ⟨rfl, h⟩ := h
  replace h := aPtr_el h
  obtain ⟨rfl, h⟩ := h
  replace h := aAgg_el h
  obtain ⟨c1, rfl, h⟩ := h
  replace h := d_layout_Layout_el h
  obtain ⟨l2, rfl, h⟩ := h
  replace h := aInt_el h
  obtain ⟨n, rfl, h⟩ := h
  replace h := aInt_el h
  obtain ⟨step, rfl, h⟩ := h
  replace h := aC_el h
  obtain ⟨b0, _, rfl, h⟩ := h
  replace h := aC_el h
  obtain ⟨b1, _, rfl, h⟩ := h
  replace h := aN_el h
  obtain ⟨rfl, h⟩ := h
  replace h := bView_el h
  obtain ⟨ws, cur, xs, rfl, h⟩ := h
  replace h := bRow_el h
  obtain ⟨(l : List Int), rfl, h⟩ := h
  obtain ⟨rfl, hx, h⟩ := h
  refine Eq.mpr (nf_extent_Find m_extent_open m_extent_Find_1 m_extent_fit_1 m_extent_fit_2 m_extent_Find_2 ws cur xs l2 n step K) ?_
  unfold m_extent_Find at h
  revert h
  exact br_So (br_So (br_So (and_So (by first | exact rfl | assumption | exact trivial | omega) (and_So (by first | exact rfl | assumption | exact trivial | omega) (bind_So fun y0 => br_So (fun h => h) (fun h => h)))) (fun h => h)) (fun h => h)) (br_So (br_So (br_So (and_So (by first | exact rfl | assumption | exact trivial | omega) (and_So (by first | exact rfl | assumption | exact trivial | omega) (bind_So fun y1 => br_So (fun h => h) (fun h => h)))) (fun h => h)) (fun h => h)) (br_So (br_So (br_So (and_So (by first | exact rfl | assumption | exact trivial | omega) (and_So (by first | exact rfl | assumption | exact trivial | omega) (bind_So fun y2 => br_So (fun h => h) (fun h => h)))) (fun h => h)) (fun h => h)) (and_So (by first | exact rfl | assumption | exact trivial | omega) (and_So (by first | exact rfl | assumption | exact trivial | omega) (bind_So fun y3 => br_So (fun h => h) (and_So (by first | exact rfl | assumption | exact trivial | omega) (and_So (by first | exact rfl | assumption | exact trivial | omega) (bind_So fun y4 => fun h => h))))))))

theorem lpok_extent_Take_L1 (ws : List Int) (cur : List Int) (xs : List Value) (l2 : T_layout_Layout) (p : Int) (n : Int) (kindv : Int) (iv : Int) (cur2 : List Int) (K : V → Heap → Prop) (hx : xs.length ≤ 2) : So (lp_extent_Take_L1 (ws.length) (l2) (p) (n) (iv, cur2)) (fun (x : Bool × (List Int)) => K (vb (x.1)) [.pk 0 [ws, x.2] xs [.row 1], .row 0 ws true]) → Loop (cfg_extent_Take m_extent_open m_chunk_Ensure m_extent_set) (⟨60, 2⟩ : Cx) (at_ (bodyOf Try.f61) [1, 1, 1, 1, 1, 1, 0, 1, 0, 0]) (mkEnv [(0, .ptr 0 0), (2, vi (p)), (3, vi (n)), (6, .ptr 2 0), (12, vi (iv))]) [.pk 0 [ws, cur2] (xs) [.row 1], .row 0 (ws : List (Int)) Bool.true, .cells 28 (e_layout_Layout l2)] (contK (cfg_extent_Take m_extent_open m_chunk_Ensure m_extent_set) (⟨60, 2⟩ : Cx) (bodyOf Try.f61) [1, 1, 1, 1, 1, 1, 0, 1, 0] (retK (cfg_extent_Take m_extent_open m_chunk_Ensure m_extent_set) Try.f61 2 K)) := by
  refine loopK_So (fun (s_ : Int × (List Int)) => (mkEnv [(0, .ptr 0 0), (2, vi (p)), (3, vi (n)), (6, .ptr 2 0), (12, vi ((s_.1)))])) (fun (s_ : Int × (List Int)) => [.pk 0 [ws, (s_.2)] (xs) [.row 1], .row 0 (ws : List (Int)) Bool.true, .cells 28 (e_layout_Layout l2)]) (fun (x : Bool × (List Int)) => K (vb (x.1)) [.pk 0 [ws, x.2] xs [.row 1], .row 0 ws true]) ?_ (iv, cur2)
  intro s_ J1 h
  clear iv
  clear cur2
  obtain ⟨iv, cur2⟩ := s_
  refine Eq.mpr (nf_extent_Take_L1 m_extent_open m_chunk_Ensure m_extent_set ws cur xs l2 p n kindv iv cur2 K J1) ?_
  have h : So (sb_extent_Take_L1 (ws.length) (l2) (p) (n) iv cur2) _ := h
  unfold sb_extent_Take_L1 at h
  revert h
  exact br_So (and_So (by first | exact rfl | assumption | exact trivial | omega) (and_So (by first | exact rfl | assumption | exact trivial | omega) (bind_So fun y0 => fun h => h))) (fun h => h)

theorem ok_extent_Take : SpecOK Try.prog elTT 61 (sp_extent_Take m_extent_Take) := by
  refine spec_of_exF (cfg := (cfg_extent_Take m_extent_open m_chunk_Ensure m_extent_set)) (cfg_ok rfl rfl rfl) (sig_cons ok_extent_open (sig_cons ok_chunk_Ensure (sig_cons ok_extent_set sig_nil))) (fn := Try.f61) (by kernel_rfl) (by kernel_rfl) (by kernel_rfl) ?_
  intro args H K h
  change tr_extent_Take m_extent_Take args H K at h
  unfold tr_extent_Take at h
  replace h := aC_el h
  obtain ⟨a0, _, rfl, h⟩ := h
  replace h := aC_el h
  obtain ⟨a1, _, rfl, h⟩ := h
  replace h := aC_el h
  obtain ⟨a2, _, rfl, h⟩ := h
  replace h := aC_el h
  obtain ⟨a3, _, rfl, h⟩ := h
  replace h := aC_el h
  obtain ⟨a4, _, rfl, h⟩ := h
  replace h := aN_el h
  obtain ⟨rfl, h⟩ := h
  replace h := aPtr_el h
  obtain ⟨rfl, h⟩ := h
  replace h := aAgg_el h
  obtain ⟨c1, rfl, h⟩ := h
  replace h := d_layout_Layout_el h
  obtain ⟨l2, rfl, h⟩ := h
  replace h := aInt_el h
  obtain ⟨p, rfl, h⟩ := h
  replace h := aInt_el h
  obtain ⟨n, rfl, h⟩ := h
  replace h := aInt_el h
  obtain ⟨kindv, rfl, h⟩ := h
  replace h := aC_el h
  obtain ⟨b0, _, rfl, h⟩ := h
  replace h := aC_el h
  obtain ⟨b1, _, rfl, h⟩ := h
  replace h := aN_el h
  obtain ⟨rfl, h⟩ := h
  replace h := bView_el h
  obtain ⟨ws, cur, xs, rfl, h⟩ := h
  replace h := bRow_el h
  obtain ⟨(l : List Int), rfl, h⟩ := h
  obtain ⟨rfl, hx, h⟩ := h
  refine Eq.mpr (nf_extent_Take m_extent_open m_chunk_Ensure m_extent_set ws cur xs l2 p n kindv K) ?_
  unfold m_extent_Take at h
  revert h
  exact br_So (fun h => h) (br_So (fun h => h) (br_So (br_So (fun h => h) (and_So (by first | exact rfl | assumption | exact trivial | omega) (and_So (by first | exact rfl | assumption | exact trivial | omega) (bind_So fun y0 => br_So (fun h => h) (and_So (by first | exact rfl | assumption | exact trivial | omega) (and_So (by first | exact rfl | assumption | exact trivial | omega) (bind_So fun y1 => br_So (and_So (by first | exact rfl | assumption | exact trivial | omega) (and_So (by first | exact rfl | assumption | exact trivial | omega) (bind_So fun y2 => lpok_extent_Take_L1 ws cur xs l2 p n kindv (1) (y2) K hx))) (and_So (by first | exact rfl | assumption | exact trivial | omega) (and_So (by first | exact rfl | assumption | exact trivial | omega) (bind_So fun y3 => lpok_extent_Take_L1 ws cur xs l2 p n kindv (1) (y3) K hx)))))))))) (and_So (by first | exact rfl | assumption | exact trivial | omega) (and_So (by first | exact rfl | assumption | exact trivial | omega) (bind_So fun y4 => br_So (fun h => h) (and_So (by first | exact rfl | assumption | exact trivial | omega) (and_So (by first | exact rfl | assumption | exact trivial | omega) (bind_So fun y5 => br_So (and_So (by first | exact rfl | assumption | exact trivial | omega) (and_So (by first | exact rfl | assumption | exact trivial | omega) (bind_So fun y6 => lpok_extent_Take_L1 ws cur xs l2 p n kindv (1) (y6) K hx))) (and_So (by first | exact rfl | assumption | exact trivial | omega) (and_So (by first | exact rfl | assumption | exact trivial | omega) (bind_So fun y7 => lpok_extent_Take_L1 ws cur xs l2 p n kindv (1) (y7) K hx)))))))))))

theorem lpok_extent_length_L1 (ws : List Int) (cur : List Int) (xs : List Value) (l2 : T_layout_Layout) (p : Int) (n : Int) (K : V → Heap → Prop) (hx : xs.length ≤ 2) : So (lp_extent_length_L1 (ws.length) (cur) (l2) (p) n) (fun (x : Int) => K (vi (x)) [.pk 0 [ws, cur] xs [.row 1], .row 0 ws true]) → Loop (cfg_extent_length m_extent_Kind) (⟨23, 2⟩ : Cx) (at_ (bodyOf Try.f116) [1, 1, 0, 1, 0, 0, 0]) (mkEnv [(0, .ptr 0 0), (2, vi (p)), (4, .ptr 2 0), (7, vi (n))]) [.pk 0 [ws, cur] (xs) [.row 1], .row 0 (ws : List (Int)) Bool.true, .cells 28 (e_layout_Layout l2)] (contK (cfg_extent_length m_extent_Kind) (⟨23, 2⟩ : Cx) (bodyOf Try.f116) [1, 1, 0, 1, 0, 0] (retK (cfg_extent_length m_extent_Kind) Try.f116 2 K)) := by
  refine loopK_So (fun (s_ : Int) => (mkEnv [(0, .ptr 0 0), (2, vi (p)), (4, .ptr 2 0), (7, vi ((s_)))])) (fun (s_ : Int) => [.pk 0 [ws, cur] (xs) [.row 1], .row 0 (ws : List (Int)) Bool.true, .cells 28 (e_layout_Layout l2)]) (fun (x : Int) => K (vi (x)) [.pk 0 [ws, cur] xs [.row 1], .row 0 ws true]) ?_ n
  intro s_ J1 h
  clear n
  revert h; revert s_; intro n h
  refine Eq.mpr (nf_extent_length_L1 m_extent_Kind ws cur xs l2 p n K J1) ?_
  have h : So (sb_extent_length_L1 (ws.length) (cur) (l2) (p) n) _ := h
  unfold sb_extent_length_L1 at h
  revert h
  exact and_So (by first | exact rfl | assumption | exact trivial | omega) (and_So (by first | exact rfl | assumption | exact trivial | omega) (bind_So fun y0 => br_So (fun h => h) (fun h => h)))

theorem ok_extent_length : SpecOK Try.prog elTT 116 (sp_extent_length m_extent_length) := by
  refine spec_of_exF (cfg := (cfg_extent_length m_extent_Kind)) (cfg_ok rfl rfl rfl) (sig_cons ok_extent_Kind sig_nil) (fn := Try.f116) (by kernel_rfl) (by kernel_rfl) (by kernel_rfl) ?_
  intro args H K h
  change tr_extent_length m_extent_length args H K at h
  unfold tr_extent_length at h
  replace h := aC_el h
  obtain ⟨a0, _, rfl, h⟩ := h
  replace h := aC_el h
  obtain ⟨a1, _, rfl, h⟩ := h
  replace h := aC_el h
  obtain ⟨a2, _, rfl, h⟩ := h
  replace h := aN_el h
  obtain ⟨rfl, h⟩ := h
  replace h := aPtr_el h
  obtain ⟨rfl, h⟩ := h
  replace h := aAgg_el h
  obtain ⟨c1, rfl, h⟩ := h
  replace h := d_layout_Layout_el h
  obtain ⟨l2, rfl, h⟩ := h
  replace h := aInt_el h
  obtain ⟨p, rfl, h⟩ := h
  replace h := aC_el h
  obtain ⟨b0, _, rfl, h⟩ := h
  replace h := aC_el h
  obtain ⟨b1, _, rfl, h⟩ := h
  replace h := aN_el h
  obtain ⟨rfl, h⟩ := h
  replace h := bView_el h
  obtain ⟨ws, cur, xs, rfl, h⟩ := h
  replace h := bRow_el h
  obtain ⟨(l : List Int), rfl, h⟩ := h
  obtain ⟨rfl, hx, h⟩ := h
  refine Eq.mpr (nf_extent_length m_extent_Kind ws cur xs l2 p K) ?_
  unfold m_extent_length at h
  revert h
  exact and_So (by first | exact rfl | assumption | exact trivial | omega) (and_So (by first | exact rfl | assumption | exact trivial | omega) (bind_So fun y0 => br_So (lpok_extent_length_L1 ws cur xs l2 p (1) K hx) (fun h => h)))

theorem lpok_extent_Drop_L1 (ws : List Int) (cur : List Int) (xs : List Value) (l2 : T_layout_Layout) (p : Int) (n : Int) (t24 : Int) (t25 : Int) (cur2 : List Int) (K : V → Heap → Prop) (hx : xs.length ≤ 2) : So (lp_extent_Drop_L1 (ws.length) (l2) (p) (n) (t24) (t25, cur2)) (fun (x : Int × (List Int)) => K (vi (x.1)) [.pk 0 [ws, x.2] xs [.row 1], .row 0 ws true]) → Loop (cfg_extent_Drop m_extent_Kind m_extent_length m_extent_set) (⟨36, 2⟩ : Cx) (at_ (bodyOf Try.f64) [1, 1, 1, 0, 1, 0, 0]) (mkEnv [(0, .ptr 0 0), (2, vi (p)), (4, .ptr 2 0), (8, vi (n)), (24, vi (t24)), (25, vi (t25))]) [.pk 0 [ws, cur2] (xs) [.row 1], .row 0 (ws : List (Int)) Bool.true, .cells 28 (e_layout_Layout l2)] (contK (cfg_extent_Drop m_extent_Kind m_extent_length m_extent_set) (⟨36, 2⟩ : Cx) (bodyOf Try.f64) [1, 1, 1, 0, 1, 0] (retK (cfg_extent_Drop m_extent_Kind m_extent_length m_extent_set) Try.f64 2 K)) := by
  refine loopK_So (fun (s_ : Int × (List Int)) => (mkEnv [(0, .ptr 0 0), (2, vi (p)), (4, .ptr 2 0), (8, vi (n)), (24, vi (t24)), (25, vi ((s_.1)))])) (fun (s_ : Int × (List Int)) => [.pk 0 [ws, (s_.2)] (xs) [.row 1], .row 0 (ws : List (Int)) Bool.true, .cells 28 (e_layout_Layout l2)]) (fun (x : Int × (List Int)) => K (vi (x.1)) [.pk 0 [ws, x.2] xs [.row 1], .row 0 ws true]) ?_ (t25, cur2)
  intro s_ J1 h
  clear t25
  clear cur2
  obtain ⟨t25, cur2⟩ := s_
  refine Eq.mpr (nf_extent_Drop_L1 m_extent_Kind m_extent_length m_extent_set ws cur xs l2 p n t24 t25 cur2 K J1) ?_
  have h : So (sb_extent_Drop_L1 (ws.length) (l2) (p) (n) (t24) t25 cur2) _ := h
  unfold sb_extent_Drop_L1 at h
  revert h
  exact br_So (and_So (by first | exact rfl | assumption | exact trivial | omega) (and_So (by first | exact rfl | assumption | exact trivial | omega) (bind_So fun y0 => fun h => h))) (fun h => h)

theorem ok_extent_Drop : SpecOK Try.prog elTT 64 (sp_extent_Drop m_extent_Drop) := by
  refine spec_of_exF (cfg := (cfg_extent_Drop m_extent_Kind m_extent_length m_extent_set)) (cfg_ok rfl rfl rfl) (sig_cons ok_extent_Kind (sig_cons ok_extent_length (sig_cons ok_extent_set sig_nil))) (fn := Try.f64) (by kernel_rfl) (by kernel_rfl) (by kernel_rfl) ?_
  intro args H K h
  change tr_extent_Drop m_extent_Drop args H K at h
  unfold tr_extent_Drop at h
  replace h := aC_el h
  obtain ⟨a0, _, rfl, h⟩ := h
  replace h := aC_el h
  obtain ⟨a1, _, rfl, h⟩ := h
  replace h := aC_el h
  obtain ⟨a2, _, rfl, h⟩ := h
  replace h := aN_el h
  obtain ⟨rfl, h⟩ := h
  replace h := aPtr_el h
  obtain ⟨rfl, h⟩ := h
  replace h := aAgg_el h
  obtain ⟨c1, rfl, h⟩ := h
  replace h := d_layout_Layout_el h
  obtain ⟨l2, rfl, h⟩ := h
  replace h := aInt_el h
  obtain ⟨p, rfl, h⟩ := h
  replace h := aC_el h
  obtain ⟨b0, _, rfl, h⟩ := h
  replace h := aC_el h
  obtain ⟨b1, _, rfl, h⟩ := h
  replace h := aN_el h
  obtain ⟨rfl, h⟩ := h
  replace h := bView_el h
  obtain ⟨ws, cur, xs, rfl, h⟩ := h
  replace h := bRow_el h
  obtain ⟨(l : List Int), rfl, h⟩ := h
  obtain ⟨rfl, hx, h⟩ := h
  refine Eq.mpr (nf_extent_Drop m_extent_Kind m_extent_length m_extent_set ws cur xs l2 p K) ?_
  unfold m_extent_Drop at h
  revert h
  exact and_So (by first | exact rfl | assumption | exact trivial | omega) (and_So (by first | exact rfl | assumption | exact trivial | omega) (bind_So fun y0 => br_So (fun h => h) (br_So (fun h => h) (and_So (by first | exact rfl | assumption | exact trivial | omega) (and_So (by first | exact rfl | assumption | exact trivial | omega) (bind_So fun y1 => lpok_extent_Drop_L1 ws cur xs l2 p (y1) (y1) (0) (cur) K hx))))))

theorem lpok_extent_First_L1 (ws : List Int) (cur : List Int) (xs : List Value) (l2 : T_layout_Layout) (p : Int) (p2 : Int) (K : V → Heap → Prop) (hx : xs.length ≤ 2) : So (lp_extent_First_L1 (ws.length) (cur) (l2) p2) (fun (x : Int) => K (vi (x)) [.pk 0 [ws, cur] xs [.row 1], .row 0 ws true]) → Loop (cfg_extent_First m_extent_Kind) (⟨24, 2⟩ : Cx) (at_ (bodyOf Try.f63) [1, 1, 0, 0, 0]) (mkEnv [(0, .ptr 0 0), (2, vi (p2)), (4, .ptr 2 0)]) [.pk 0 [ws, cur] (xs) [.row 1], .row 0 (ws : List (Int)) Bool.true, .cells 28 (e_layout_Layout l2)] (contK (cfg_extent_First m_extent_Kind) (⟨24, 2⟩ : Cx) (bodyOf Try.f63) [1, 1, 0, 0] (retK (cfg_extent_First m_extent_Kind) Try.f63 2 K)) := by
  refine loopK_So (fun (s_ : Int) => (mkEnv [(0, .ptr 0 0), (2, vi ((s_))), (4, .ptr 2 0)])) (fun (s_ : Int) => [.pk 0 [ws, cur] (xs) [.row 1], .row 0 (ws : List (Int)) Bool.true, .cells 28 (e_layout_Layout l2)]) (fun (x : Int) => K (vi (x)) [.pk 0 [ws, cur] xs [.row 1], .row 0 ws true]) ?_ p2
  intro s_ J1 h
  clear p2
  revert h; revert s_; intro p2 h
  refine Eq.mpr (nf_extent_First_L1 m_extent_Kind ws cur xs l2 p p2 K J1) ?_
  have h : So (sb_extent_First_L1 (ws.length) (cur) (l2) p2) _ := h
  unfold sb_extent_First_L1 at h
  revert h
  exact br_So (and_So (by first | exact rfl | assumption | exact trivial | omega) (and_So (by first | exact rfl | assumption | exact trivial | omega) (bind_So fun y0 => br_So (fun h => h) (fun h => h)))) (fun h => h)

theorem ok_extent_First : SpecOK Try.prog elTT 63 (sp_extent_First m_extent_First) := by
  refine spec_of_exF (cfg := (cfg_extent_First m_extent_Kind)) (cfg_ok rfl rfl rfl) (sig_cons ok_extent_Kind sig_nil) (fn := Try.f63) (by kernel_rfl) (by kernel_rfl) (by kernel_rfl) ?_
  intro args H K h
  change tr_extent_First m_extent_First args H K at h
  unfold tr_extent_First at h
  replace h := aC_el h
  obtain ⟨a0, _, rfl, h⟩ := h
  replace h := aC_el h
  obtain ⟨a1, _, rfl, h⟩ := h
  replace h := aC_el h
  obtain ⟨a2, _, rfl, h⟩ := h
  replace h := aN_el h
  obtain ⟨rfl, h⟩ := h
  replace h := aPtr_el h
  obtain ⟨rfl, h⟩ := h
  replace h := aAgg_el h
  obtain ⟨c1, rfl, h⟩ := h
  replace h := d_layout_Layout_el h
  obtain ⟨l2, rfl, h⟩ := h
  replace h := aInt_el h
  obtain ⟨p, rfl, h⟩ := h
  replace h := aC_el h
  obtain ⟨b0, _, rfl, h⟩ := h
  replace h := aC_el h
  obtain ⟨b1, _, rfl, h⟩ := h
  replace h := aN_el h
  obtain ⟨rfl, h⟩ := h
  replace h := bView_el h
  obtain ⟨ws, cur, xs, rfl, h⟩ := h
  replace h := bRow_el h
  obtain ⟨(l : List Int), rfl, h⟩ := h
  obtain ⟨rfl, hx, h⟩ := h
  refine Eq.mpr (nf_extent_First m_extent_Kind ws cur xs l2 p K) ?_
  unfold m_extent_First at h
  revert h
  exact and_So (by first | exact rfl | assumption | exact trivial | omega) (and_So (by first | exact rfl | assumption | exact trivial | omega) (bind_So fun y0 => br_So (fun h => h) (lpok_extent_First_L1 ws cur xs l2 p (p) K hx)))

theorem lpok_extent_Used_L1 (ws : List Int) (cur : List Int) (xs : List Value) (l2 : T_layout_Layout) (many : Int) (t9 : Int) (t10 : Int) (K : V → Heap → Prop) (hx : xs.length ≤ 2) : So (lp_extent_Used_L1 (ws.length) (cur) (l2) (t9) (many, t10)) (fun (x : Int) => K (vi (x)) [.pk 0 [ws, cur] xs [.row 1], .row 0 ws true]) → Loop (cfg_extent_Used m_layout_Layout_Config m_extent_Kind) (⟨22, 2⟩ : Cx) (at_ (bodyOf Try.f60) [1, 1, 0, 1, 0, 0]) (mkEnv [(0, .ptr 0 0), (3, .ptr 2 0), (5, vi (many)), (9, vi (t9)), (10, vi (t10))]) [.pk 0 [ws, cur] (xs) [.row 1], .row 0 (ws : List (Int)) Bool.true, .cells 28 (e_layout_Layout l2)] (contK (cfg_extent_Used m_layout_Layout_Config m_extent_Kind) (⟨22, 2⟩ : Cx) (bodyOf Try.f60) [1, 1, 0, 1, 0] (retK (cfg_extent_Used m_layout_Layout_Config m_extent_Kind) Try.f60 2 K)) := by
  refine loopK_So (fun (s_ : Int × Int) => (mkEnv [(0, .ptr 0 0), (3, .ptr 2 0), (5, vi ((s_.1))), (9, vi (t9)), (10, vi ((s_.2)))])) (fun (s_ : Int × Int) => [.pk 0 [ws, cur] (xs) [.row 1], .row 0 (ws : List (Int)) Bool.true, .cells 28 (e_layout_Layout l2)]) (fun (x : Int) => K (vi (x)) [.pk 0 [ws, cur] xs [.row 1], .row 0 ws true]) ?_ (many, t10)
  intro s_ J1 h
  clear many
  clear t10
  obtain ⟨many, t10⟩ := s_
  refine Eq.mpr (nf_extent_Used_L1 m_layout_Layout_Config m_extent_Kind ws cur xs l2 many t9 t10 K J1) ?_
  have h : So (sb_extent_Used_L1 (ws.length) (cur) (l2) (t9) many t10) _ := h
  unfold sb_extent_Used_L1 at h
  revert h
  exact br_So (and_So (by first | exact rfl | assumption | exact trivial | omega) (and_So (by first | exact rfl | assumption | exact trivial | omega) (bind_So fun y0 => br_So (fun h => h) (fun h => h)))) (fun h => h)

theorem ok_extent_Used : SpecOK Try.prog elTT 60 (sp_extent_Used m_extent_Used) := by
  refine spec_of_exF (cfg := (cfg_extent_Used m_layout_Layout_Config m_extent_Kind)) (cfg_ok rfl rfl rfl) (sig_cons ok_layout_Layout_Config (sig_cons ok_extent_Kind sig_nil)) (fn := Try.f60) (by kernel_rfl) (by kernel_rfl) (by kernel_rfl) ?_
  intro args H K h
  change tr_extent_Used m_extent_Used args H K at h
  unfold tr_extent_Used at h
  replace h := aC_el h
  obtain ⟨a0, _, rfl, h⟩ := h
  replace h := aC_el h
  obtain ⟨a1, _, rfl, h⟩ := h
  replace h := aN_el h
  obtain ⟨rfl, h⟩ := h
  replace h := aPtr_el h
  obtain ⟨rfl, h⟩ := h
  replace h := aAgg_el h
  obtain ⟨c1, rfl, h⟩ := h
  replace h := d_layout_Layout_el h
  obtain ⟨l2, rfl, h⟩ := h
  replace h := aC_el h
  obtain ⟨b0, _, rfl, h⟩ := h
  replace h := aC_el h
  obtain ⟨b1, _, rfl, h⟩ := h
  replace h := aN_el h
  obtain ⟨rfl, h⟩ := h
  replace h := bView_el h
  obtain ⟨ws, cur, xs, rfl, h⟩ := h
  replace h := bRow_el h
  obtain ⟨(l : List Int), rfl, h⟩ := h
  obtain ⟨rfl, hx, h⟩ := h
  refine Eq.mpr (nf_extent_Used m_layout_Layout_Config m_extent_Kind ws cur xs l2 K) ?_
  unfold m_extent_Used at h
  revert h
  exact bind_So fun y0 => lpok_extent_Used_L1 ws cur xs l2 (0) (T_api_Config.Pages y0) (0) K hx

theorem lpok_extent_Trim_L1 (ws : List Int) (cur : List Int) (xs : List Value) (l2 : T_layout_Layout) (turned : Int) (t10 : Int) (t11 : Int) (cur2 : List Int) (K : V → Heap → Prop) (hx : xs.length ≤ 2) : So (lp_extent_Trim_L1 (ws.length) (l2) (t10) (turned, t11, cur2)) (fun (x : Int × (List Int)) => K (vi (x.1)) [.pk 0 [ws, x.2] xs [.row 1], .row 0 ws true]) → Loop (cfg_extent_Trim m_layout_Layout_Chunks m_chunk_Pages m_extent_open m_chunk_Unmap) (⟨36, 2⟩ : Cx) (at_ (bodyOf Try.f66) [1, 1, 0, 1, 0, 0]) (mkEnv [(0, .ptr 0 0), (3, .ptr 2 0), (5, vi (turned)), (10, vi (t10)), (11, vi (t11))]) [.pk 0 [ws, cur2] (xs) [.row 1], .row 0 (ws : List (Int)) Bool.true, .cells 28 (e_layout_Layout l2)] (contK (cfg_extent_Trim m_layout_Layout_Chunks m_chunk_Pages m_extent_open m_chunk_Unmap) (⟨36, 2⟩ : Cx) (bodyOf Try.f66) [1, 1, 0, 1, 0] (retK (cfg_extent_Trim m_layout_Layout_Chunks m_chunk_Pages m_extent_open m_chunk_Unmap) Try.f66 2 K)) := by
  refine loopK_So (fun (s_ : Int × Int × (List Int)) => (mkEnv [(0, .ptr 0 0), (3, .ptr 2 0), (5, vi ((s_.1))), (10, vi (t10)), (11, vi ((s_.2.1)))])) (fun (s_ : Int × Int × (List Int)) => [.pk 0 [ws, (s_.2.2)] (xs) [.row 1], .row 0 (ws : List (Int)) Bool.true, .cells 28 (e_layout_Layout l2)]) (fun (x : Int × (List Int)) => K (vi (x.1)) [.pk 0 [ws, x.2] xs [.row 1], .row 0 ws true]) ?_ (turned, t11, cur2)
  intro s_ J1 h
  clear turned
  clear t11
  clear cur2
  obtain ⟨turned, t11, cur2⟩ := s_
  refine Eq.mpr (nf_extent_Trim_L1 m_layout_Layout_Chunks m_chunk_Pages m_extent_open m_chunk_Unmap ws cur xs l2 turned t10 t11 cur2 K J1) ?_
  have h : So (sb_extent_Trim_L1 (ws.length) (l2) (t10) turned t11 cur2) _ := h
  unfold sb_extent_Trim_L1 at h
  revert h
  exact br_So (bind_So fun y0 => and_So (by first | exact rfl | assumption | exact trivial | omega) (and_So (by first | exact rfl | assumption | exact trivial | omega) (bind_So fun y1 => br_So (and_So (by first | exact rfl | assumption | exact trivial | omega) (and_So (by first | exact rfl | assumption | exact trivial | omega) (bind_So fun y2 => br_So (fun h => h) (fun h => h)))) (fun h => h)))) (fun h => h)

theorem ok_extent_Trim : SpecOK Try.prog elTT 66 (sp_extent_Trim m_extent_Trim) := by
  refine spec_of_exF (cfg := (cfg_extent_Trim m_layout_Layout_Chunks m_chunk_Pages m_extent_open m_chunk_Unmap)) (cfg_ok rfl rfl rfl) (sig_cons ok_layout_Layout_Chunks (sig_cons ok_chunk_Pages (sig_cons ok_extent_open (sig_cons ok_chunk_Unmap sig_nil)))) (fn := Try.f66) (by kernel_rfl) (by kernel_rfl) (by kernel_rfl) ?_
  intro args H K h
  change tr_extent_Trim m_extent_Trim args H K at h
  unfold tr_extent_Trim at h
  replace h := aC_el h
  obtain ⟨a0, _, rfl, h⟩ := h
  replace h := aC_el h
  obtain ⟨a1, _, rfl, h⟩ := h
  replace h := aN_el h
  obtain ⟨rfl, h⟩ := h
  replace h := aPtr_el h
  obtain ⟨rfl, h⟩ := h
  replace h := aAgg_el h
  obtain ⟨c1, rfl, h⟩ := h
  replace h := d_layout_Layout_el h
  obtain ⟨l2, rfl, h⟩ := h
  replace h := aC_el h
  obtain ⟨b0, _, rfl, h⟩ := h
  replace h := aC_el h
  obtain ⟨b1, _, rfl, h⟩ := h
  replace h := aN_el h
  obtain ⟨rfl, h⟩ := h
  replace h := bView_el h
  obtain ⟨ws, cur, xs, rfl, h⟩ := h
  replace h := bRow_el h
  obtain ⟨(l : List Int), rfl, h⟩ := h
  obtain ⟨rfl, hx, h⟩ := h
  refine Eq.mpr (nf_extent_Trim m_layout_Layout_Chunks m_chunk_Pages m_extent_open m_chunk_Unmap ws cur xs l2 K) ?_
  unfold m_extent_Trim at h
  revert h
  exact bind_So fun y0 => lpok_extent_Trim_L1 ws cur xs l2 (0) (y0) (0) (cur) K hx

end Go.Rx
end

section
/- Runs of pages: the program's functions, plainly. -/
namespace Go.Rx
open Go.Proofs

instance (kb pg : Int) (w : List Int) (p n : Int) : Decidable (FreeR kb pg w p n) :=
  decidable_of_iff ((1 ≤ n ∧ 0 ≤ p ∧ p < pg ∧ n ≤ pg - p) ∧ ∀ i : Nat, i < n.toNat → wd w (kb + (p + i)) = 0)
    ⟨fun h => ⟨h.1, fun i h0 h1 => by
      have := h.2 i.toNat (by omega)
      rw [show ((i.toNat : Nat) : Int) = i by omega] at this; exact this⟩, fun h => ⟨h.span, fun i hi => h.free i (by omega) (by omega)⟩⟩

/-- First fit, whatever pages would do. -/
theorem fit_gen {pg step n : Int} {ok : Int → Prop} (outer : Int → Option (Int ⊕ Int)) (inner : Int → Int → Option (Int ⊕ (Int ⊕ Int)))
    (hn : 1 ≤ n) (hs : 1 ≤ step ∧ step ≤ 256) (hpg : 1 ≤ pg ∧ pg ≤ 256)
    (ho1 : ∀ p, (1 ≤ n ∧ 0 ≤ p ∧ p < pg ∧ n ≤ pg - p) → outer p = loopO (inner p) (n - 1))
    (ho2 : ∀ p, 0 ≤ p → p ≤ 1000 → ¬ (1 ≤ n ∧ 0 ≤ p ∧ p < pg ∧ n ≤ pg - p) → outer p = some (.inr (-1)))
    (hi1 : ∀ p i, (1 ≤ n ∧ 0 ≤ p ∧ p < pg ∧ n ≤ pg - p) → 0 ≤ i → i < n → ok (p + i) → inner p i = some (.inl (i - 1)))
    (hi2 : ∀ p i, (1 ≤ n ∧ 0 ≤ p ∧ p < pg ∧ n ≤ pg - p) → 0 ≤ i → i < n → ¬ ok (p + i) → inner p i = some (.inr (.inl ((p + i) / step * step + step))))
    (hi3 : ∀ p i, i < 0 → inner p i = some (.inr (.inr p))) :
    ∃ r, loopO outer 0 = some r ∧ Least pg (Does pg step n ok) r := by
  refine loopO_ind (step := outer) (I := fun p => 0 ≤ p ∧ p ≤ 1000 ∧ p % step = 0 ∧ ∀ q, 0 ≤ q → q < p → ¬ Does pg step n ok q) (μ := fun p => (pg - p).toNat) (fun r => Least pg (Does pg step n ok) r) (fun p hp => ?_) 0 ⟨by omega, by omega, by simp, fun q h0 h1 => by omega⟩
  obtain ⟨p0, p1, p2, p3⟩ := hp
  by_cases c : 1 ≤ n ∧ 0 ≤ p ∧ p < pg ∧ n ≤ pg - p
  · rw [ho1 p c]
    obtain ⟨r, h1, h2⟩ := loopO_ind (step := inner p) (I := fun i => -1 ≤ i ∧ i < n ∧ ∀ j, i < j → j < n → ok (p + j)) (μ := fun i => (i + 1).toNat)
      (fun r => (r = .inr p ∧ ∀ j, 0 ≤ j → j < n → ok (p + j)) ∨ (∃ i, 0 ≤ i ∧ i < n ∧ ¬ ok (p + i) ∧ r = .inl ((p + i) / step * step + step))) (fun i hi => by
        obtain ⟨i0, i1, i2⟩ := hi
        by_cases d : 0 ≤ i
        · by_cases e : ok (p + i)
          · refine .inl ⟨_, hi1 p i c d i1 e, ⟨by omega, by omega, fun j h0 h1 => ?_⟩, by omega⟩
            by_cases f : j = i
            · rw [f]; exact e
            · exact i2 j (by omega) h1
          · exact .inr ⟨_, hi2 p i c d i1 e, .inr ⟨i, d, i1, e, rfl⟩⟩
        · exact .inr ⟨_, hi3 p i (by omega), .inl ⟨rfl, fun j h0 h1 => i2 j (by omega) h1⟩⟩) (n - 1) ⟨by omega, by omega, fun j h0 h1 => by omega⟩
    rw [h1]
    rcases h2 with ⟨rfl, h2⟩ | ⟨i, d, i1, e, rfl⟩
    · refine .inr ⟨_, rfl, fit_hit ⟨p2, c, fun j h0 h1 => ?_⟩ p3⟩
      have := h2 (j - p) (by omega) (by omega)
      rw [show p + (j - p) = j by omega] at this; exact this
    · obtain ⟨a1, a2, a3, a4⟩ := fit_next hs.1 p0 ⟨d, i1⟩ e p3
      exact .inl ⟨_, rfl, ⟨by omega, by omega, a3, a4⟩, by omega⟩
  · exact .inr ⟨_, ho2 p p0 p1 c, fit_end c hn p0 p3⟩

section
variable {L : T_layout_Layout} {nw : Nat} {cur : List Int}
theorem LayOK.geoK (h : LayOK L) : 1 ≤ L.at_1 ∧ L.at_2 = L.at_1 + L.c.Pages ∧ L.at_3 = L.at_1 + 2 * L.c.Pages ∧ L.at_1 + 3 * L.c.Pages ≤ L.at_11 ∧ L.at_1 + 3 * L.c.Pages = L.at_4 ∧ L.at_0 + (L.c.Pages + 3) / 4 = L.at_1 ∧ 1 ≤ L.at_0 := by
  have := h.a0; have := h.a1; have := h.a2; have := h.a3; have := h.a4; have := h.a5; have := h.a6; have := h.a7; have := h.a8b; have := h.a9; have := h.a11; have := h.big; have := h.stripes; have := h.pages; have := h.bin
  omega
theorem VOK.geoK (v : VOK L nw cur) : GeoK L.at_1 L.c.Pages cur.length := by
  have := v.lay.geoK; have := v.all; have := v.len
  exact ⟨by omega, v.lay.pages, by omega⟩

theorem ethere_eq (p : Int) : m_extent_there L p = some (decide (0 ≤ p ∧ p < L.c.Pages)) := by
  unfold m_extent_there
  by_cases a : 0 ≤ p
  · rw [decide_eq_true (show p ≥ 0 from a), cond_true, Config_eq, Option.bind_some]
    have e : (0 ≤ p ∧ p < L.c.Pages) ↔ p < (cOf L).Pages := ⟨fun x => x.2, fun x => ⟨a, x⟩⟩
    simp only [e]
  · rw [decide_eq_false (show ¬ p ≥ 0 from a), decide_eq_false (fun x => a x.1)]; rfl
theorem eKind_eq (v : VOK L nw cur) (p : Int) : m_extent_Kind nw cur L p = some (knd L.at_1 L.c.Pages cur p) := by
  unfold m_extent_Kind
  rw [ethere_eq, Option.bind_some]
  have g := v.lay.geoK; have := v.all; have := v.lay.pages
  by_cases a : 0 ≤ p ∧ p < L.c.Pages
  · rw [decide_eq_true a, knd_in a, Bool.not_true, cond_false, Kind_eq v.lay, Option.bind_some]
    unfold lPg
    rw [if_pos a, inR_int (by omega) (by omega), cond_true]; rfl
  · rw [decide_eq_false a, knd_out a]; rfl
theorem eall_eq (h : LayOK L) (p n : Int) : m_extent_all L p n = some (decide (1 ≤ n ∧ 0 ≤ p ∧ p < L.c.Pages ∧ n ≤ L.c.Pages - p)) := by
  unfold m_extent_all
  have hpg := h.pages
  rw [ethere_eq, Option.bind_some]
  by_cases a : 0 ≤ p ∧ p < L.c.Pages
  · rw [decide_eq_true a, cond_true]
    by_cases b : 1 ≤ n
    · have e0 : (cOf L).Pages = L.c.Pages := rfl
      rw [decide_eq_true (show n ≥ 1 from b), cond_true, Config_eq, Option.bind_some, e0, wrap_id (x := L.c.Pages - p) (by omega) (by omega)]
      have e : (1 ≤ n ∧ 0 ≤ p ∧ p < L.c.Pages ∧ n ≤ L.c.Pages - p) ↔ n ≤ L.c.Pages - p := ⟨fun x => x.2.2.2, fun x => ⟨b, a.1, a.2, x⟩⟩
      simp only [e]
    · rw [decide_eq_false (show ¬ n ≥ 1 from b), cond_false, decide_eq_false (fun x => b x.1)]
  · rw [decide_eq_false a, cond_false, decide_eq_false (fun x => a ⟨x.2.1, x.2.2.1⟩)]
theorem eopen_eq (v : VOK L nw cur) (p n : Int) : m_extent_open nw cur L p n = some (decide (FreeR L.at_1 L.c.Pages cur p n)) := by
  unfold m_extent_open
  rw [eall_eq v.lay, Option.bind_some]
  have hpg := v.lay.pages
  by_cases a : 1 ≤ n ∧ 0 ≤ p ∧ p < L.c.Pages ∧ n ≤ L.c.Pages - p
  · rw [decide_eq_true a, Bool.not_true, cond_false]
    obtain ⟨r, h1, rfl⟩ := loopO_ind (step := fun s : Int => sb_extent_open_L1 nw cur L p n s)
      (I := fun i => 0 ≤ i ∧ i ≤ n ∧ ∀ j, 0 ≤ j → j < i → wd cur (L.at_1 + (p + j)) = 0) (μ := fun i => (n - i).toNat) (fun r => r = decide (FreeR L.at_1 L.c.Pages cur p n)) (by
        rintro i ⟨i0, i1, i2⟩
        simp only [sb_extent_open_L1]
        by_cases c : i < n
        · rw [decide_eq_true c, cond_true, wrap_id (x := p + i) (by omega) (by omega), eKind_eq v, Option.bind_some, knd_in (by omega)]
          by_cases z : wd cur (L.at_1 + (p + i)) = 0
          · have e : (wd cur (L.at_1 + (p + i)) != 0) = false := by rw [z]; rfl
            rw [e, cond_false, wrap_id (by omega) (by omega)]
            refine .inl ⟨_, rfl, ⟨by omega, by omega, fun j h0 h1 => ?_⟩, by omega⟩
            by_cases d : j = i
            · rw [d]; exact z
            · exact i2 j h0 (by omega)
          · have e : (wd cur (L.at_1 + (p + i)) != 0) = true := by simpa using z
            rw [e, cond_true]
            exact .inr ⟨_, rfl, (decide_eq_false (fun f => z (f.free i i0 c))).symm⟩
        · rw [decide_eq_false c, cond_false]
          exact .inr ⟨_, rfl, (decide_eq_true ⟨a, fun j h0 h1 => i2 j h0 (by omega)⟩).symm⟩) 0 ⟨by omega, by omega, fun j h0 h1 => by omega⟩
    exact h1
  · rw [decide_eq_false a, Bool.not_false, cond_true, decide_eq_false (fun f => a f.span)]
theorem eset_eq (v : VOK L nw cur) {p : Int} (hp : 0 ≤ p ∧ p < L.c.Pages) (k n : Int) : m_extent_set nw cur L p k n = some (setP L.at_1 L.c.Pages cur p k n) := by
  unfold m_extent_set
  have g := v.lay.geoK; have := v.all
  rw [Kind_eq v.lay, Option.bind_some, Count_eq v.lay, Option.bind_some, Bits_eq v.lay, Option.bind_some]
  unfold lPg
  rw [if_pos hp, if_pos hp, if_pos hp, inR_int (by omega) (by omega), cond_true, inR_int (by omega) (by omega), cond_true, inR_int (by omega) (by omega), cond_true]
  unfold setP wr
  rw [g.2.1, g.2.2.1]
theorem VOK.setP (v : VOK L nw cur) (p k n : Int) : VOK L nw (Go.Rx.setP L.at_1 L.c.Pages cur p k n) := ⟨v.lay, by rw [setP_len]; exact v.len, v.all⟩

/-- A page's chunk is mapped. -/
def mpd (L : T_layout_Layout) (cur : List Int) (j : Int) : Prop := isB cur L.c.Pages L.at_0 (j / 4) 1 = true

theorem fit1_eq (v : VOK L nw cur) {n step : Int} (hn : 1 ≤ n) (hs : 1 ≤ step ∧ step ≤ 256) : ∃ r, m_extent_fit_1 nw cur L n step L = some r ∧
    Least L.c.Pages (Does L.c.Pages step n (fun j => knd L.at_1 L.c.Pages cur j = 0 ∧ mpd L cur j)) r := by
  have hpg := v.lay.pages
  have hst : (!step == 0) = true := by simp; omega
  have hnext : ∀ p i, (1 ≤ n ∧ 0 ≤ p ∧ p < L.c.Pages ∧ n ≤ L.c.Pages - p) → 0 ≤ i → i < n → IntKind.i64.wrap (IntKind.i64.wrap (IntKind.i64.wrap (Int.tdiv (IntKind.i64.wrap (p + i)) step) * step) + step) = (p + i) / step * step + step := fun p i c h0 h1 => by
    have a1 : (p + i) / step * step ≤ p + i := Int.ediv_mul_le _ (by omega)
    have a2 : 0 ≤ (p + i) / step := Int.ediv_nonneg (by omega) (by omega)
    have a3 : (p + i) / step ≤ p + i := Int.ediv_le_self _ (by omega)
    have a4 : 0 ≤ (p + i) / step * step := Int.mul_nonneg a2 (by omega)
    rw [wrap_id (x := p + i) (by omega) (by omega), Int.tdiv_eq_ediv_of_nonneg (by omega), wrap_id (x := (p + i) / step) (by omega) (by omega), wrap_id (x := (p + i) / step * step) (by omega) (by omega), wrap_id (by omega) (by omega)]
  refine fit_gen (fun p => sb_extent_fit_1_L1 nw cur L n step L p) (fun p i => sb_extent_fit_1_L2 nw cur L step L p i) hn hs hpg (fun p c => ?_) (fun p p0 p1 c => ?_) (fun p i c h0 h1 hk => ?_) (fun p i c h0 h1 hk => ?_) (fun p i h0 => ?_)
  · simp only [sb_extent_fit_1_L1, eall_eq v.lay, Option.bind_some, decide_eq_true c, cond_true]
    rw [wrap_id (by omega) (by omega)]; rfl
  · simp only [sb_extent_fit_1_L1, eall_eq v.lay, Option.bind_some, decide_eq_false c, cond_false]
  · simp only [sb_extent_fit_1_L2]
    have hm := hk.2
    unfold mpd at hm
    rw [decide_eq_true (show i ≥ 0 from h0), cond_true, wrap_id (x := p + i) (by omega) (by omega), eKind_eq v, Option.bind_some, hk.1]
    unfold m_extent_Find_1
    rw [cOf_eq (by omega), Option.bind_some, Mapped_eq v, Option.bind_some, Option.bind_some]
    unfold chunkI
    rw [decide_eq_false (show ¬ p + i < 0 by omega), cond_false, hm, show ((0 : Int) != 0) = false from rfl, cond_false, Bool.not_true, cond_false, wrap_id (x := i - 1) (by omega) (by omega)]
  · simp only [sb_extent_fit_1_L2, hnext p i c h0 h1, hst, cond_true]
    rw [decide_eq_true (show i ≥ 0 from h0), cond_true, wrap_id (x := p + i) (by omega) (by omega), eKind_eq v, Option.bind_some]
    by_cases z : knd L.at_1 L.c.Pages cur (p + i) = 0
    · have e : (knd L.at_1 L.c.Pages cur (p + i) != 0) = false := by rw [z]; rfl
      rw [e, cond_false]
      unfold m_extent_Find_1
      rw [cOf_eq (by omega), Option.bind_some, Mapped_eq v, Option.bind_some, Option.bind_some]
      unfold chunkI
      rw [decide_eq_false (show ¬ p + i < 0 by omega), cond_false]
      have hm : isB cur L.c.Pages L.at_0 ((p + i) / 4) 1 = false := by
        cases hb : isB cur L.c.Pages L.at_0 ((p + i) / 4) 1 with
        | false => rfl
        | true => exact (hk ⟨z, hb⟩).elim
      rw [hm]; rfl
    · have e : (knd L.at_1 L.c.Pages cur (p + i) != 0) = true := by simpa using z
      rw [e, cond_true]
  · simp only [sb_extent_fit_1_L2, decide_eq_false (show ¬ i ≥ 0 by omega), cond_false]
theorem fit2_eq (v : VOK L nw cur) {n step : Int} (hn : 1 ≤ n) (hs : 1 ≤ step ∧ step ≤ 256) : ∃ r, m_extent_fit_2 nw cur L n step = some r ∧
    Least L.c.Pages (Does L.c.Pages step n (fun j => knd L.at_1 L.c.Pages cur j = 0)) r := by
  have hpg := v.lay.pages
  have hst : (!step == 0) = true := by simp; omega
  have hnext : ∀ p i, (1 ≤ n ∧ 0 ≤ p ∧ p < L.c.Pages ∧ n ≤ L.c.Pages - p) → 0 ≤ i → i < n → IntKind.i64.wrap (IntKind.i64.wrap (IntKind.i64.wrap (Int.tdiv (IntKind.i64.wrap (p + i)) step) * step) + step) = (p + i) / step * step + step := fun p i c h0 h1 => by
    have a1 : (p + i) / step * step ≤ p + i := Int.ediv_mul_le _ (by omega)
    have a2 : 0 ≤ (p + i) / step := Int.ediv_nonneg (by omega) (by omega)
    have a3 : (p + i) / step ≤ p + i := Int.ediv_le_self _ (by omega)
    have a4 : 0 ≤ (p + i) / step * step := Int.mul_nonneg a2 (by omega)
    rw [wrap_id (x := p + i) (by omega) (by omega), Int.tdiv_eq_ediv_of_nonneg (by omega), wrap_id (x := (p + i) / step) (by omega) (by omega), wrap_id (x := (p + i) / step * step) (by omega) (by omega), wrap_id (by omega) (by omega)]
  refine fit_gen (fun p => sb_extent_fit_2_L1 nw cur L n step p) (fun p i => sb_extent_fit_2_L2 nw cur L step p i) hn hs hpg (fun p c => ?_) (fun p p0 p1 c => ?_) (fun p i c h0 h1 hk => ?_) (fun p i c h0 h1 hk => ?_) (fun p i h0 => ?_)
  · simp only [sb_extent_fit_2_L1, eall_eq v.lay, Option.bind_some, decide_eq_true c, cond_true]
    rw [wrap_id (by omega) (by omega)]; rfl
  · simp only [sb_extent_fit_2_L1, eall_eq v.lay, Option.bind_some, decide_eq_false c, cond_false]
  · simp only [sb_extent_fit_2_L2]
    rw [decide_eq_true (show i ≥ 0 from h0), cond_true, wrap_id (x := p + i) (by omega) (by omega), eKind_eq v, Option.bind_some, hk]
    unfold m_extent_Find_2
    rw [Option.bind_some, show ((0 : Int) != 0) = false from rfl, cond_false, Bool.not_true, cond_false, wrap_id (x := i - 1) (by omega) (by omega)]
  · simp only [sb_extent_fit_2_L2, hnext p i c h0 h1, hst, cond_true]
    rw [decide_eq_true (show i ≥ 0 from h0), cond_true, wrap_id (x := p + i) (by omega) (by omega), eKind_eq v, Option.bind_some]
    have e : (knd L.at_1 L.c.Pages cur (p + i) != 0) = true := by simpa using hk
    rw [e, cond_true]
  · simp only [sb_extent_fit_2_L2, decide_eq_false (show ¬ i ≥ 0 by omega), cond_false]

/-- What Find tells. -/
def FindR (L : T_layout_Layout) (cur : List Int) (n step r : Int) : Prop :=
  if 1 ≤ n ∧ 1 ≤ step then Found L.c.Pages step n (fun j => knd L.at_1 L.c.Pages cur j = 0) (mpd L cur) r else r = -1
theorem FindR.uniq {n step r r' : Int} (h : FindR L cur n step r) (h' : FindR L cur n step r') : r = r' := by
  unfold FindR at h h'
  split at h
  · rename_i c; rw [if_pos c] at h'; exact h.uniq h'
  · rename_i c; rw [if_neg c] at h'; rw [h, h']
theorem does_free {p n step : Int} {kb pg : Int} {w : List Int} : Does pg step n (fun j => knd kb pg w j = 0) p ↔ p % step = 0 ∧ FreeR kb pg w p n := by
  constructor
  · intro d
    refine ⟨d.mul, d.span, fun i h0 h1 => ?_⟩
    have := d.all (p + i) (by omega) (by omega)
    have hs := d.span
    rw [knd_in (by omega)] at this; exact this
  · rintro ⟨m, f⟩
    refine ⟨m, f.span, fun j h0 h1 => ?_⟩
    have := f.free (j - p) (by omega) (by omega)
    have hs := f.span
    rw [knd_in (by omega)]
    rw [show p + (j - p) = j by omega] at this; exact this
theorem eFind_eq (v : VOK L nw cur) (n step : Int) : ∃ r, m_extent_Find nw cur L n step = some r ∧ FindR L cur n step r := by
  have hpg := v.lay.pages
  unfold m_extent_Find FindR
  by_cases a : n < 1
  · rw [decide_eq_true a, cond_true, decide_eq_false (show ¬ n ≥ 1 by omega), cond_false]
    exact ⟨_, rfl, by rw [if_neg (by omega)]⟩
  rw [decide_eq_false a, cond_false]
  by_cases b : step < 1
  · rw [decide_eq_true b, cond_true, decide_eq_true (show n ≥ 1 by omega), cond_true, decide_eq_false (show ¬ step > 256 by omega), cond_false]
    exact ⟨_, rfl, by rw [if_neg (by omega)]⟩
  rw [decide_eq_false b, cond_false]
  simp only [if_pos (show 1 ≤ n ∧ 1 ≤ step by omega)]
  by_cases c : step > 256
  · rw [decide_eq_true c, cond_true, decide_eq_true (show n ≥ 1 by omega), cond_true, cond_true, eopen_eq v, Option.bind_some]
    have only : ∀ {ok : Int → Prop} {q : Int}, Does L.c.Pages step n ok q → q = 0 := fun {ok q} d => by
      have hs := d.span
      have := d.mul
      rw [Int.emod_eq_of_lt (by omega) (by omega)] at this; exact this
    by_cases f : FreeR L.at_1 L.c.Pages cur 0 n
    · rw [decide_eq_true f, cond_true]
      refine ⟨_, rfl, ?_⟩
      have d0 : Does L.c.Pages step n (fun j => knd L.at_1 L.c.Pages cur j = 0) 0 := does_free.2 ⟨by simp, f⟩
      by_cases m : Does L.c.Pages step n (fun j => knd L.at_1 L.c.Pages cur j = 0 ∧ mpd L cur j) 0
      · exact .inl ⟨by omega, fit_hit m (fun q h0 h1 => by omega)⟩
      · refine .inr ⟨.inl ⟨rfl, fun q h0 h1 d => ?_⟩, fit_hit d0 (fun q h0 h1 => by omega)⟩
        have e := only d
        subst e
        exact m d
    · rw [decide_eq_false f, cond_false]
      refine ⟨_, rfl, .inr ⟨.inl ⟨rfl, fun q h0 h1 d => ?_⟩, .inl ⟨rfl, fun q h0 h1 d => ?_⟩⟩⟩
      · have e := only d
        subst e
        exact f (does_free.1 (d.mono (fun j _ _ h => h.1))).2
      · have e := only d
        subst e
        exact f (does_free.1 d).2
  · rw [decide_eq_false c, cond_false]
    obtain ⟨r, h1, h2⟩ := fit1_eq v (n := n) (step := step) (by omega) (by omega)
    obtain ⟨r2, k1, k2⟩ := fit2_eq v (n := n) (step := step) (by omega) (by omega)
    rw [h1, Option.bind_some]
    by_cases e : r = -1
    · have e1 : (r != -1) = false := by rw [e]; rfl
      rw [e1, cond_false, k1, Option.bind_some]
      subst e
      exact ⟨_, rfl, .inr ⟨h2, k2⟩⟩
    · have e1 : (r != -1) = true := by simpa using e
      rw [e1, cond_true]
      refine ⟨_, rfl, .inl ⟨?_, h2⟩⟩
      rcases h2 with ⟨h, _⟩ | ⟨h, _⟩
      · exact (e h).elim
      · exact h
end
end Go.Rx
end

section
/- Runs of pages: taking, dropping, trimming, by the program. -/
namespace Go.Rx
open Go.Proofs

theorem Ran.len' {kb pg : Int} {w u : List Int} {p n k : Int} (r : Ran kb pg w u p n k) : u.length = w.length := r.len
theorem turnU_off {cur : List Int} {pg tb k st : Int} (htb : 0 ≤ tb) {b : Int} (hb : tb + (pg + 3) / 4 ≤ b) : wd (turnU cur pg tb k st) b = wd cur b := by
  have h := turn_out (cur := cur) (pg := pg) (tb := tb) (k := k) (st := st) (j := b.toNat) htb (.inr (by omega))
  unfold wd; rw [List.getD, List.getD, h]
theorem ens_off {cur : List Int} {pg tb p n : Int} (htb : 0 ≤ tb) {b : Int} (hb : tb + (pg + 3) / 4 ≤ b) : wd (ensM cur pg tb p n).2 b = wd cur b := by
  have h := ens_out (cur := cur) (pg := pg) (tb := tb) (a := p / 4) (j := b.toNat) htb (.inr (by omega)) (ensK pg p n)
  unfold ensM wd; rw [List.getD, List.getD, h]

section
variable {L : T_layout_Layout} {nw : Nat} {cur : List Int}

/-- What taking a run makes of the words. -/
structure TakeW (L : T_layout_Layout) (cur u : List Int) (p n k : Int) : Prop where
  ran : Ran L.at_1 L.c.Pages (setP L.at_1 L.c.Pages (ensM cur L.c.Pages L.at_0 p n).2 p k (if k = 6 then n else 0)) u (p + 1) (n - 1) 7

theorem TakeW.len {L : T_layout_Layout} {cur u : List Int} {p n k : Int} (t : TakeW L cur u p n k) : u.length = cur.length := by
  rw [t.ran.len, setP_len]; unfold ensM; rw [ensG_len]

theorem take_loop (v : VOK L nw cur) {p n : Int} (hs : 1 ≤ n ∧ 0 ≤ p ∧ p < L.c.Pages ∧ n ≤ L.c.Pages - p) : ∃ u, lp_extent_Take_L1 nw L p n (1, cur) = some (true, u) ∧ Ran L.at_1 L.c.Pages cur u (p + 1) (n - 1) 7 := by
  have hpg := v.lay.pages
  have g := v.geoK
  obtain ⟨r, h1, u, rfl, h2⟩ := loopO_ind (step := fun s : Int × List Int => sb_extent_Take_L1 nw L p n s.1 s.2)
    (I := fun s => 1 ≤ s.1 ∧ s.1 ≤ n ∧ Ran L.at_1 L.c.Pages cur s.2 (p + 1) (s.1 - 1) 7) (μ := fun s => (n - s.1).toNat) (fun r => ∃ u, r = (true, u) ∧ Ran L.at_1 L.c.Pages cur u (p + 1) (n - 1) 7) (by
      rintro ⟨i, u⟩ ⟨i1, i2, i3⟩
      simp only at i1 i2 i3 ⊢
      simp only [sb_extent_Take_L1]
      by_cases c : i < n
      · have vu : VOK L nw u := ⟨v.lay, by rw [i3.len]; exact v.len, v.all⟩
        rw [decide_eq_true c, cond_true, wrap_id (x := p + i) (by omega) (by omega), eset_eq vu (by omega), Option.bind_some, wrap_id (by omega) (by omega)]
        have st := i3.step g (by omega) (by omega) (by omega)
        rw [show p + 1 + (i - 1) = p + i by omega, show i - 1 + 1 = i + 1 - 1 by omega] at st
        exact .inl ⟨_, rfl, ⟨by simp only; omega, by simp only; omega, st⟩, by simp only; omega⟩
      · have e : i = n := by omega
        subst e
        rw [decide_eq_false c, cond_false]
        exact .inr ⟨_, rfl, _, rfl, i3⟩) (1, cur) ⟨by omega, by omega, by simpa using Ran.zero _ _ _ _ _⟩
  exact ⟨u, h1, h2⟩

/-- May these pages be taken so? -/
def MayTake (L : T_layout_Layout) (cur : List Int) (p n k : Int) : Prop := (1 ≤ k ∧ k ≤ 6) ∧ (k < 6 → n = 1) ∧ FreeR L.at_1 L.c.Pages cur p n
instance (L : T_layout_Layout) (cur : List Int) (p n k : Int) : Decidable (MayTake L cur p n k) :=
  decidable_of_iff ((1 ≤ k ∧ k ≤ 6) ∧ (k < 6 → n = 1) ∧ FreeR L.at_1 L.c.Pages cur p n) Iff.rfl

theorem eTake_yes (v : VOK L nw cur) {p n k : Int} (h : MayTake L cur p n k) (hp : I64 p) : ∃ u, m_extent_Take nw cur L p n k = some (true, u) ∧ TakeW L cur u p n k := by
  obtain ⟨⟨k1, k2⟩, k3, f⟩ := h
  have hs := f.span
  have ve := v.ens p n
  have core : ((m_extent_open nw cur L p n).bind fun y4 => (bif (!y4) then some (((Bool.false), (cur))) else ((m_chunk_Ensure nw cur L p n).bind fun y5 => (bif (k == 6) then ((m_extent_set nw (Prod.snd y5) L p k n).bind fun y6 => (lp_extent_Take_L1 nw L p n ((1), (y6)))) else ((m_extent_set nw (Prod.snd y5) L p k 0).bind fun y7 => (lp_extent_Take_L1 nw L p n ((1), (y7)))))))) = lp_extent_Take_L1 nw L p n (1, setP L.at_1 L.c.Pages (ensM cur L.c.Pages L.at_0 p n).2 p k (if k = 6 then n else 0)) := by
    rw [eopen_eq v, Option.bind_some, decide_eq_true f, Bool.not_true, cond_false, Ensure_eq v hp, Option.bind_some, eset_eq ve (by omega), eset_eq ve (by omega), Option.bind_some, Option.bind_some]
    by_cases e : k = 6
    · have e1 : (k == 6) = true := by rw [e]; rfl
      rw [e1, cond_true, if_pos e]
    · have e1 : (k == 6) = false := by simpa using e
      rw [e1, cond_false, if_neg e]
  unfold m_extent_Take
  rw [decide_eq_false (show ¬ k < 1 by omega), cond_false, decide_eq_false (show ¬ k > 6 by omega), cond_false]
  obtain ⟨u, h1, h2⟩ := take_loop (ve.setP p k (if k = 6 then n else 0)) hs
  refine ⟨u, ?_, ⟨h2⟩⟩
  by_cases c : k < 6
  · have e : (n != 1) = false := by rw [k3 c]; rfl
    rw [decide_eq_true c, cond_true, e, cond_false, core, h1]
  · rw [decide_eq_false c, cond_false, core, h1]
theorem eTake_no (v : VOK L nw cur) {p n k : Int} (h : ¬ MayTake L cur p n k) : m_extent_Take nw cur L p n k = some (false, cur) := by
  unfold m_extent_Take
  by_cases k1 : k < 1
  · rw [decide_eq_true k1]; rfl
  rw [decide_eq_false k1, cond_false]
  by_cases k2 : k > 6
  · rw [decide_eq_true k2]; rfl
  rw [decide_eq_false k2, cond_false, eopen_eq v, Option.bind_some]
  by_cases c : k < 6
  · rw [decide_eq_true c, cond_true]
    by_cases e : n = 1
    · have e1 : (n != 1) = false := by rw [e]; rfl
      rw [e1, cond_false, decide_eq_false (fun f => h ⟨by omega, fun _ => e, f⟩)]; rfl
    · have e1 : (n != 1) = true := by simpa using e
      rw [e1]; rfl
  · rw [decide_eq_false c, cond_false, decide_eq_false (fun f => h ⟨by omega, fun x => (c x).elim, f⟩)]; rfl

theorem length_eq (v : VOK L nw cur) {p : Int} (hp : 0 ≤ p ∧ p < L.c.Pages) : ∃ n, m_extent_length nw cur L p = some n ∧ RunLen L.at_1 L.c.Pages cur p n := by
  have hpg := v.lay.pages
  unfold m_extent_length
  rw [eKind_eq v, Option.bind_some]
  by_cases c : knd L.at_1 L.c.Pages cur p = 6
  · have e : (knd L.at_1 L.c.Pages cur p == 6) = true := by rw [c]; rfl
    rw [e, cond_true]
    exact loopO_ind (step := fun s : Int => sb_extent_length_L1 nw cur L p s) (I := fun n => 1 ≤ n ∧ p + n ≤ L.c.Pages ∧ ∀ i, 1 ≤ i → i < n → knd L.at_1 L.c.Pages cur (p + i) = 7) (μ := fun n => (L.c.Pages - n).toNat)
      (fun n => RunLen L.at_1 L.c.Pages cur p n) (by
        rintro n ⟨i1, i2, i3⟩
        simp only [sb_extent_length_L1]
        rw [wrap_id (x := p + n) (by omega) (by omega), eKind_eq v, Option.bind_some]
        by_cases d : knd L.at_1 L.c.Pages cur (p + n) = 7
        · have e : (knd L.at_1 L.c.Pages cur (p + n) == 7) = true := by rw [d]; rfl
          have hin : p + n < L.c.Pages := by
            by_cases h : p + n < L.c.Pages
            · exact h
            · rw [knd_out (by omega)] at d; omega
          rw [e, cond_true, wrap_id (by omega) (by omega)]
          refine .inl ⟨_, rfl, ⟨by omega, by omega, fun i a b => ?_⟩, by omega⟩
          by_cases f : i = n
          · rw [f]; exact d
          · exact i3 i a (by omega)
        · have e : (knd L.at_1 L.c.Pages cur (p + n) == 7) = false := by simpa using d
          rw [e, cond_false]
          exact .inr ⟨_, rfl, ⟨i1, i2, i3, fun _ => d, fun h => (h c).elim⟩⟩) 1 ⟨by omega, by omega, fun i a b => by omega⟩
  · have e : (knd L.at_1 L.c.Pages cur p == 6) = false := by simpa using c
    rw [e, cond_false]
    exact ⟨1, rfl, ⟨by omega, by omega, fun i a b => by omega, fun h => (c h).elim, fun _ => rfl⟩⟩

theorem drop_loop (v : VOK L nw cur) {p n : Int} (hs : 1 ≤ n ∧ 0 ≤ p ∧ p + n ≤ L.c.Pages) : ∃ u, lp_extent_Drop_L1 nw L p n n (0, cur) = some (n, u) ∧ Ran L.at_1 L.c.Pages cur u p n 0 := by
  have hpg := v.lay.pages
  have g := v.geoK
  obtain ⟨r, h1, u, rfl, h2⟩ := loopO_ind (step := fun s : Int × List Int => sb_extent_Drop_L1 nw L p n n s.1 s.2)
    (I := fun s => 0 ≤ s.1 ∧ s.1 ≤ n ∧ Ran L.at_1 L.c.Pages cur s.2 p s.1 0) (μ := fun s => (n - s.1).toNat) (fun r => ∃ u, r = (n, u) ∧ Ran L.at_1 L.c.Pages cur u p n 0) (by
      rintro ⟨i, u⟩ ⟨i1, i2, i3⟩
      simp only at i1 i2 i3 ⊢
      simp only [sb_extent_Drop_L1]
      by_cases c : i < n
      · have vu : VOK L nw u := ⟨v.lay, by rw [i3.len]; exact v.len, v.all⟩
        rw [decide_eq_true c, cond_true, wrap_id (x := p + i) (by omega) (by omega), eset_eq vu (by omega), Option.bind_some, wrap_id (by omega) (by omega)]
        exact .inl ⟨_, rfl, ⟨by simp only; omega, by simp only; omega, i3.step g (by omega) (by omega) (by omega)⟩, by simp only; omega⟩
      · have e : i = n := by omega
        subst e
        rw [decide_eq_false c, cond_false]
        exact .inr ⟨_, rfl, _, rfl, i3⟩) (0, cur) ⟨by omega, by omega, Ran.zero _ _ _ _ _⟩
  exact ⟨u, h1, h2⟩

theorem eDrop_eq (v : VOK L nw cur) (p : Int) : ∃ n u, m_extent_Drop nw cur L p = some (n, u) ∧
    ((1 ≤ knd L.at_1 L.c.Pages cur p ∧ knd L.at_1 L.c.Pages cur p ≤ 6 ∧ RunLen L.at_1 L.c.Pages cur p n ∧ Ran L.at_1 L.c.Pages cur u p n 0) ∨
     (¬ (1 ≤ knd L.at_1 L.c.Pages cur p ∧ knd L.at_1 L.c.Pages cur p ≤ 6) ∧ n = 0 ∧ u = cur)) := by
  unfold m_extent_Drop
  rw [eKind_eq v, Option.bind_some]
  by_cases a : knd L.at_1 L.c.Pages cur p ≤ 0
  · rw [decide_eq_true a, cond_true]
    exact ⟨_, _, rfl, .inr ⟨by omega, rfl, rfl⟩⟩
  rw [decide_eq_false a, cond_false]
  by_cases b : knd L.at_1 L.c.Pages cur p ≥ 7
  · rw [decide_eq_true b, cond_true]
    exact ⟨_, _, rfl, .inr ⟨by omega, rfl, rfl⟩⟩
  rw [decide_eq_false b, cond_false]
  have hp : 0 ≤ p ∧ p < L.c.Pages := by
    by_cases h : 0 ≤ p ∧ p < L.c.Pages
    · exact h
    · rw [knd_out h] at a; omega
  obtain ⟨n, h1, h2⟩ := length_eq v hp
  obtain ⟨u, h3, h4⟩ := drop_loop v (p := p) (n := n) ⟨h2.pos, hp.1, h2.inn⟩
  rw [h1, Option.bind_some, h3]
  exact ⟨_, _, rfl, .inl ⟨by omega, by omega, h2, h4⟩⟩

/-- The first page of a page's run. -/
structure FirstR (kb pg : Int) (w : List Int) (p r : Int) : Prop where
  le : r ≤ p
  rest : ∀ j, r < j → j ≤ p → knd kb pg w j = 7
  fin : r ≤ 0 ∨ knd kb pg w r ≠ 7
  pos : 0 ≤ p → 0 ≤ r
theorem FirstR.uniq {kb pg : Int} {w : List Int} {p r r' : Int} (hp : 0 ≤ p) (h : FirstR kb pg w p r) (h' : FirstR kb pg w p r') : r = r' := by
  have a1 := h.pos hp; have a2 := h'.pos hp; have a3 := h.le; have a4 := h'.le
  by_cases c : r < r'
  · have := h.rest r' c a4
    rcases h'.fin with f | f
    · omega
    · exact (f this).elim
  · by_cases d : r' < r
    · have := h'.rest r d a3
      rcases h.fin with f | f
      · omega
      · exact (f this).elim
    · omega
theorem eFirst_eq (v : VOK L nw cur) (p : Int) : ∃ r, m_extent_First nw cur L p = some r ∧ ((knd L.at_1 L.c.Pages cur p ≤ 0 ∧ r = -1) ∨ (0 < knd L.at_1 L.c.Pages cur p ∧ FirstR L.at_1 L.c.Pages cur p r)) := by
  have hpg := v.lay.pages
  unfold m_extent_First
  rw [eKind_eq v, Option.bind_some]
  by_cases a : knd L.at_1 L.c.Pages cur p ≤ 0
  · rw [decide_eq_true a, cond_true]; exact ⟨_, rfl, .inl ⟨a, rfl⟩⟩
  rw [decide_eq_false a, cond_false]
  have hp : 0 ≤ p ∧ p < L.c.Pages := by
    by_cases h : 0 ≤ p ∧ p < L.c.Pages
    · exact h
    · rw [knd_out h] at a; omega
  obtain ⟨r, h1, h2⟩ := loopO_ind (step := fun s : Int => sb_extent_First_L1 nw cur L s) (I := fun r => 0 ≤ r ∧ r ≤ p ∧ ∀ j, r < j → j ≤ p → knd L.at_1 L.c.Pages cur j = 7) (μ := fun r => r.toNat) (fun r => FirstR L.at_1 L.c.Pages cur p r) (by
    rintro r ⟨r0, r1, r2⟩
    simp only [sb_extent_First_L1]
    by_cases c : r > 0
    · rw [decide_eq_true c, cond_true, eKind_eq v, Option.bind_some]
      by_cases d : knd L.at_1 L.c.Pages cur r = 7
      · have e : (knd L.at_1 L.c.Pages cur r == 7) = true := by rw [d]; rfl
        rw [e, cond_true, wrap_id (by omega) (by omega)]
        refine .inl ⟨_, rfl, ⟨by omega, by omega, fun j a b => ?_⟩, by omega⟩
        by_cases f : j = r
        · rw [f]; exact d
        · exact r2 j (by omega) b
      · have e : (knd L.at_1 L.c.Pages cur r == 7) = false := by simpa using d
        rw [e, cond_false]
        exact .inr ⟨_, rfl, ⟨r1, r2, .inr d, fun _ => r0⟩⟩
    · rw [decide_eq_false c, cond_false]
      exact .inr ⟨_, rfl, ⟨r1, r2, .inl (by omega), fun _ => r0⟩⟩) p ⟨hp.1, by omega, fun j a b => by omega⟩
  exact ⟨r, h1, .inr ⟨by omega, h2⟩⟩

theorem eUsed_eq (v : VOK L nw cur) : m_extent_Used nw cur L = some (usedN L.at_1 L.c.Pages cur L.c.Pages.toNat) := by
  have hpg := v.lay.pages
  unfold m_extent_Used
  rw [Config_eq, Option.bind_some]
  have e0 : (cOf L).Pages = L.c.Pages := rfl
  rw [e0]
  obtain ⟨r, h1, rfl⟩ := loopO_ind (step := fun s : Int × Int => sb_extent_Used_L1 nw cur L L.c.Pages s.1 s.2)
    (I := fun s => ∃ j : Nat, (j : Int) ≤ L.c.Pages ∧ s = (usedN L.at_1 L.c.Pages cur j, (j : Int))) (μ := fun s => (L.c.Pages - s.2).toNat) (fun r => r = usedN L.at_1 L.c.Pages cur L.c.Pages.toNat) (by
      rintro _ ⟨j, hj, rfl⟩
      simp only [sb_extent_Used_L1]
      have hu := usedN_le L.at_1 L.c.Pages cur j
      by_cases c : (j : Int) < L.c.Pages
      · rw [decide_eq_true c, cond_true, eKind_eq v, Option.bind_some, wrap_succ (by omega), wrap_id (by omega) (by omega)]
        refine .inl ⟨(usedN L.at_1 L.c.Pages cur (j + 1), ((j + 1 : Nat) : Int)), ?_, ⟨j + 1, by omega, rfl⟩, by simp only; omega⟩
        simp only [usedN]
        by_cases z : knd L.at_1 L.c.Pages cur j = 0
        · rw [if_pos z, z, Int.add_zero]; rfl
        · have e : (knd L.at_1 L.c.Pages cur j != 0) = true := by simpa using z
          rw [if_neg z, e]; rfl
      · have e : j = L.c.Pages.toNat := by omega
        rw [decide_eq_false c, cond_false]
        exact .inr ⟨_, rfl, by rw [e]⟩) (0, 0) ⟨0, by omega, rfl⟩
  exact h1

/-- Chunks without used pages are not mapped, from the first one on. -/
def trimN (L : T_layout_Layout) (cur : List Int) : Nat → List Int
  | 0 => cur
  | k + 1 => if FreeR L.at_1 L.c.Pages cur (pagesI L.c.Pages k) (pagesN L.c.Pages k) then turnU (trimN L cur k) L.c.Pages L.at_0 k 0 else trimN L cur k
theorem trimN_len (L : T_layout_Layout) (cur : List Int) : ∀ k, (trimN L cur k).length = cur.length
  | 0 => rfl
  | k + 1 => by
    simp only [trimN]; split
    · rw [turnU_len, trimN_len]
    · exact trimN_len L cur k
theorem trimN_off (h : LayOK L) {b : Int} (hb : L.at_1 ≤ b) : ∀ k, wd (trimN L cur k) b = wd cur b
  | 0 => rfl
  | k + 1 => by
    have g := h.geoK
    simp only [trimN]; split
    · rw [turnU_off (by omega) (by omega), trimN_off h hb k]
    · exact trimN_off h hb k
theorem FreeR.congr {kb pg : Int} {w u : List Int} {p n : Int} (h : ∀ q, 0 ≤ q → q < pg → wd u (kb + q) = wd w (kb + q)) : FreeR kb pg u p n ↔ FreeR kb pg w p n := by
  constructor
  · intro f
    have hs := f.span
    refine ⟨hs, fun i a b => ?_⟩
    rw [← h (p + i) (by omega) (by omega)]; exact f.free i a b
  · intro f
    have hs := f.span
    refine ⟨hs, fun i a b => ?_⟩
    rw [h (p + i) (by omega) (by omega)]; exact f.free i a b
theorem trim_free (h : LayOK L) (k : Nat) (p n : Int) : FreeR L.at_1 L.c.Pages (trimN L cur k) p n ↔ FreeR L.at_1 L.c.Pages cur p n :=
  FreeR.congr (fun q h0 _ => trimN_off h (by omega) k)
theorem countM_b (u : List Int) {pg : Int} (hpg : 1 ≤ pg ∧ pg ≤ 256) (tb : Int) : 0 ≤ countM u pg tb ∧ countM u pg tb ≤ 1000 := by
  have := cntN_le u pg tb (chunksN pg)
  unfold countM; unfold chunksN at *; omega

/-- What Trim makes of the words. -/
def trimM (L : T_layout_Layout) (cur : List Int) : List Int := trimN L cur ((L.c.Pages + 3) / 4).toNat
theorem eTrim_eq (v : VOK L nw cur) : m_extent_Trim nw cur L = some (countM cur L.c.Pages L.at_0 - countM (trimM L cur) L.c.Pages L.at_0, trimM L cur) := by
  have hpg := v.lay.pages
  have g := v.lay.geoK
  unfold m_extent_Trim
  rw [Chunks_eq v.lay, Option.bind_some]
  have vk : ∀ k, VOK L nw (trimN L cur k) := fun k => ⟨v.lay, by rw [trimN_len]; exact v.len, v.all⟩
  obtain ⟨r, h1, rfl⟩ := loopO_ind (step := fun s : Int × Int × List Int => sb_extent_Trim_L1 nw L ((L.c.Pages + 3) / 4) s.1 s.2.1 s.2.2)
    (I := fun s => ∃ k : Nat, (k : Int) ≤ (L.c.Pages + 3) / 4 ∧ s = (countM cur L.c.Pages L.at_0 - countM (trimN L cur k) L.c.Pages L.at_0, (k : Int), trimN L cur k)) (μ := fun s => ((L.c.Pages + 3) / 4 - s.2.1).toNat)
    (fun r => r = (countM cur L.c.Pages L.at_0 - countM (trimM L cur) L.c.Pages L.at_0, trimM L cur)) (by
      rintro _ ⟨k, hk, rfl⟩
      simp only [sb_extent_Trim_L1]
      by_cases c : (k : Int) < (L.c.Pages + 3) / 4
      · have ht : thereB L.c.Pages k = true := by unfold thereB; simp; omega
        have htb := (vk k).tab
        have b0 := countM_b cur hpg L.at_0
        have b1 := countM_b (trimN L cur k) hpg L.at_0
        have hpn := pagesN_le L.c.Pages k
        rw [decide_eq_true c, cond_true, Pages_eq v.lay, Option.bind_some]
        simp only
        rw [eopen_eq (vk k), Option.bind_some, wrap_succ (by omega)]
        by_cases f : FreeR L.at_1 L.c.Pages cur (pagesI L.c.Pages k) (pagesN L.c.Pages k)
        · have e1 : trimN L cur (k + 1) = turnU (trimN L cur k) L.c.Pages L.at_0 k 0 := by simp only [trimN]; rw [if_pos f]
          rw [decide_eq_true ((trim_free v.lay k _ _).2 f), cond_true, Unmap_eq (vk k), Option.bind_some]
          have hct := count_turn (pg := L.c.Pages) (tb := L.at_0) (cur := trimN L cur k) (k := k) (st := 0) htb.1 htb.2
          have b2 := countM_b (trimN L cur (k + 1)) hpg L.at_0
          unfold byM at hct
          refine .inl ⟨(countM cur L.c.Pages L.at_0 - countM (trimN L cur (k + 1)) L.c.Pages L.at_0, ((k + 1 : Nat) : Int), trimN L cur (k + 1)), ?_, ⟨k + 1, by omega, rfl⟩, by simp only; omega⟩
          rw [e1] at b2 ⊢
          have e01 : ((0 : Int) == 1) = false := by decide
          cases hb : turnB (trimN L cur k) L.c.Pages L.at_0 k 0 with
          | true =>
            rw [hb, cond_true] at hct
            rw [e01, cond_false] at hct
            simp only [cond_true]
            rw [wrap_id (by omega) (by omega), hct]
            congr 3; omega
          | false =>
            rw [hb, cond_false] at hct
            simp only [cond_false]
            rw [hct]
            congr 3; omega
        · have e1 : trimN L cur (k + 1) = trimN L cur k := by simp only [trimN]; rw [if_neg f]
          rw [decide_eq_false (fun x => f ((trim_free v.lay k _ _).1 x)), cond_false]
          exact .inl ⟨_, rfl, ⟨k + 1, by omega, by rw [e1]⟩, by simp only; omega⟩
      · have e : k = ((L.c.Pages + 3) / 4).toNat := by omega
        rw [decide_eq_false c, cond_false]
        exact .inr ⟨_, rfl, by unfold trimM; rw [e]⟩) (0, 0, cur) ⟨0, by omega, by simp [trimN]⟩
  exact h1
end
end Go.Rx
end

section
/- Contracts. -/
namespace Go.Rx
open Go.Proofs
set_option maxRecDepth 100000
set_option maxHeartbeats 4000000
/-! assart/assartref09.Kind -/
def tr_ref09_Kind (m_ : T_assartref02_Layout → Int → (List Int) → Option (Int)) (args : List V) (H : Heap) (K : V → Heap → Prop) : Prop :=
  aC args fun a0 r => aC r fun a1 r => aC r fun a2 r => aN r <| aAgg a0 fun c0 => d_assartref02_Layout c0 fun l2 => aRow 0 a1 <| aInt a2 fun p => aC H fun b0 r => aN r <| bRow 0 true b0 fun (w : List Int) => So (m_ l2 p w) fun x => K (vi (x)) [.row 0 w true]
def sp_ref09_Kind (m_ : T_assartref02_Layout → Int → (List Int) → Option (Int)) : Spec := ⟨tr_ref09_Kind m_, (true : Bool)⟩

/-! assart/assartref09.Used -/
def tr_ref09_Used (m_ : T_assartref02_Layout → (List Int) → Option (Int)) (args : List V) (H : Heap) (K : V → Heap → Prop) : Prop :=
  aC args fun a0 r => aC r fun a1 r => aN r <| aAgg a0 fun c0 => d_assartref02_Layout c0 fun l2 => aRow 0 a1 <| aC H fun b0 r => aN r <| bRow 0 true b0 fun (w : List Int) => So (m_ l2 w) fun x => K (vi (x)) [.row 0 w true]
def sp_ref09_Used (m_ : T_assartref02_Layout → (List Int) → Option (Int)) : Spec := ⟨tr_ref09_Used m_, (true : Bool)⟩

/-! assart/assartref09.First -/
def tr_ref09_First (m_ : T_assartref02_Layout → Int → (List Int) → Option (Int)) (args : List V) (H : Heap) (K : V → Heap → Prop) : Prop :=
  aC args fun a0 r => aC r fun a1 r => aC r fun a2 r => aN r <| aAgg a0 fun c0 => d_assartref02_Layout c0 fun l2 => aRow 0 a1 <| aInt a2 fun p => aC H fun b0 r => aN r <| bRow 0 true b0 fun (w : List Int) => So (m_ l2 p w) fun x => K (vi (x)) [.row 0 w true]
def sp_ref09_First (m_ : T_assartref02_Layout → Int → (List Int) → Option (Int)) : Spec := ⟨tr_ref09_First m_, (true : Bool)⟩

/-! assart/assartref09.open -/
def tr_ref09_open (m_ : T_assartref02_Layout → Int → Int → Bool → (List Int) → Option (Bool)) (args : List V) (H : Heap) (K : V → Heap → Prop) : Prop :=
  aC args fun a0 r => aC r fun a1 r => aC r fun a2 r => aC r fun a3 r => aC r fun a4 r => aN r <| aAgg a0 fun c0 => d_assartref02_Layout c0 fun l2 => aRow 0 a1 <| aInt a2 fun p => aInt a3 fun n => aBool a4 fun mapped => aC H fun b0 r => aN r <| bRow 0 true b0 fun (w : List Int) => So (m_ l2 p n mapped w) fun x => K (vb (x)) [.row 0 w true]
def sp_ref09_open (m_ : T_assartref02_Layout → Int → Int → Bool → (List Int) → Option (Bool)) : Spec := ⟨tr_ref09_open m_, (true : Bool)⟩

/-! assart/assartref09.Find -/
def tr_ref09_Find (m_ : T_assartref02_Layout → Int → Int → (List Int) → Option (Int)) (args : List V) (H : Heap) (K : V → Heap → Prop) : Prop :=
  aC args fun a0 r => aC r fun a1 r => aC r fun a2 r => aC r fun a3 r => aN r <| aAgg a0 fun c0 => d_assartref02_Layout c0 fun l2 => aRow 0 a1 <| aInt a2 fun n => aInt a3 fun step => aC H fun b0 r => aN r <| bRow 0 true b0 fun (w : List Int) => So (m_ l2 n step w) fun x => K (vi (x)) [.row 0 w true]
def sp_ref09_Find (m_ : T_assartref02_Layout → Int → Int → (List Int) → Option (Int)) : Spec := ⟨tr_ref09_Find m_, (true : Bool)⟩

/-! assart/assartref09.set -/
def tr_ref09_set (m_ : T_assartref02_Layout → Int → Int → Int → (List Int) → Option ((List Int))) (args : List V) (H : Heap) (K : V → Heap → Prop) : Prop :=
  aC args fun a0 r => aC r fun a1 r => aC r fun a2 r => aC r fun a3 r => aC r fun a4 r => aN r <| aAgg a0 fun c0 => d_assartref02_Layout c0 fun l2 => aRow 0 a1 <| aInt a2 fun p => aInt a3 fun kindv => aInt a4 fun count => aC H fun b0 r => aN r <| bRow 0 false b0 fun (w : List Int) => So (m_ l2 p kindv count w) fun x => K (.tup []) [.row 0 (x) false]
def sp_ref09_set (m_ : T_assartref02_Layout → Int → Int → Int → (List Int) → Option ((List Int))) : Spec := ⟨tr_ref09_set m_, (⟨true, fun i => Nat.beq i 0⟩ : RO)⟩

/-! assart/assartref09.Take -/
def tr_ref09_Take (m_ : T_assartref02_Layout → Int → Int → Int → (List Int) → Option (Bool × (List Int))) (args : List V) (H : Heap) (K : V → Heap → Prop) : Prop :=
  aC args fun a0 r => aC r fun a1 r => aC r fun a2 r => aC r fun a3 r => aC r fun a4 r => aN r <| aAgg a0 fun c0 => d_assartref02_Layout c0 fun l2 => aRow 0 a1 <| aInt a2 fun p => aInt a3 fun n => aInt a4 fun kindv => aC H fun b0 r => aN r <| bRow 0 false b0 fun (w : List Int) => So (m_ l2 p n kindv w) fun x => K (vb (x.1)) [.row 0 (x.2) false]
def sp_ref09_Take (m_ : T_assartref02_Layout → Int → Int → Int → (List Int) → Option (Bool × (List Int))) : Spec := ⟨tr_ref09_Take m_, (⟨true, fun i => Nat.beq i 0⟩ : RO)⟩

/-! assart/assartref09.Drop -/
def tr_ref09_Drop (m_ : T_assartref02_Layout → Int → (List Int) → Option (Int × (List Int))) (args : List V) (H : Heap) (K : V → Heap → Prop) : Prop :=
  aC args fun a0 r => aC r fun a1 r => aC r fun a2 r => aN r <| aAgg a0 fun c0 => d_assartref02_Layout c0 fun l2 => aRow 0 a1 <| aInt a2 fun p => aC H fun b0 r => aN r <| bRow 0 false b0 fun (w : List Int) => So (m_ l2 p w) fun x => K (vi (x.1)) [.row 0 (x.2) false]
def sp_ref09_Drop (m_ : T_assartref02_Layout → Int → (List Int) → Option (Int × (List Int))) : Spec := ⟨tr_ref09_Drop m_, (⟨true, fun i => Nat.beq i 0⟩ : RO)⟩

/-! assart/assartref09.Trim -/
def tr_ref09_Trim (m_ : T_assartref02_Layout → (List Int) → Option (Int × (List Int))) (args : List V) (H : Heap) (K : V → Heap → Prop) : Prop :=
  aC args fun a0 r => aC r fun a1 r => aN r <| aAgg a0 fun c0 => d_assartref02_Layout c0 fun l2 => aRow 0 a1 <| aC H fun b0 r => aN r <| bRow 0 false b0 fun (w : List Int) => So (m_ l2 w) fun x => K (vi (x.1)) [.row 0 (x.2) false]
def sp_ref09_Trim (m_ : T_assartref02_Layout → (List Int) → Option (Int × (List Int))) : Spec := ⟨tr_ref09_Trim m_, (⟨true, fun i => Nat.beq i 0⟩ : RO)⟩

noncomputable def cfg_ref09_Kind (m_ref02_Layout_Kind : T_assartref02_Layout → Int → Option (Int)) : Cfg := { cfgB with
  sigs := (sigC 145 (sp_ref02_Layout_Kind m_ref02_Layout_Kind) sigN) }

noncomputable def cfg_ref09_Used (m_ref09_Kind : T_assartref02_Layout → Int → (List Int) → Option (Int)) : Cfg := { cfgB with
  sigs := (sigC 105 (sp_ref09_Kind m_ref09_Kind) sigN),
  keep := fun r => match r with | 3 => some [(1, some 0), (2, none), (5, none), (6, none)] | _ => none }

noncomputable def cfg_ref09_First (m_ref09_Kind : T_assartref02_Layout → Int → (List Int) → Option (Int)) : Cfg := { cfgB with
  sigs := (sigC 105 (sp_ref09_Kind m_ref09_Kind) sigN),
  keep := fun r => match r with | 3 => some [(1, some 0), (2, none), (3, none)] | _ => none }

noncomputable def cfg_ref09_open (m_ref09_Kind : T_assartref02_Layout → Int → (List Int) → Option (Int)) (m_ref08_Of : Int → Option (Int)) (m_ref08_Mapped : T_assartref02_Layout → Int → (List Int) → Option (Bool)) : Cfg := { cfgB with
  sigs := (sigC 105 (sp_ref09_Kind m_ref09_Kind) (sigC 127 (sp_ref08_Of m_ref08_Of) (sigC 76 (sp_ref08_Mapped m_ref08_Mapped) sigN))),
  keep := fun r => match r with | 4 => some [(1, some 0), (2, none), (3, none), (4, none), (5, none), (11, none)] | _ => none,
  plan := fun r => match r with | 6 => some (List.range 16, 0) | _ => none }

noncomputable def cfg_ref09_Find (m_ref09_open : T_assartref02_Layout → Int → Int → Bool → (List Int) → Option (Bool)) : Cfg := { cfgB with
  sigs := (sigC 141 (sp_ref09_open m_ref09_open) sigN),
  keep := fun r => match r with | 4 => some [(1, some 0), (2, none), (3, none), (4, none), (9, none)] | 9 => some [(1, some 0), (2, none), (3, none), (4, none), (10, none)] | _ => none }

noncomputable def cfg_ref09_set (m_ref02_Layout_Kind : T_assartref02_Layout → Int → Option (Int)) (m_ref02_Layout_Count : T_assartref02_Layout → Int → Option (Int)) (m_ref02_Layout_Bits : T_assartref02_Layout → Int → Option (Int)) : Cfg := { cfgB with
  sigs := (sigC 145 (sp_ref02_Layout_Kind m_ref02_Layout_Kind) (sigC 159 (sp_ref02_Layout_Count m_ref02_Layout_Count) (sigC 160 (sp_ref02_Layout_Bits m_ref02_Layout_Bits) sigN))) }

noncomputable def cfg_ref09_Take (m_ref09_open : T_assartref02_Layout → Int → Int → Bool → (List Int) → Option (Bool)) (m_ref08_Ensure : T_assartref02_Layout → Int → Int → (List Int) → Option (Int × (List Int))) (m_ref09_set : T_assartref02_Layout → Int → Int → Int → (List Int) → Option ((List Int))) : Cfg := { cfgB with
  sigs := (sigC 141 (sp_ref09_open m_ref09_open) (sigC 78 (sp_ref08_Ensure m_ref08_Ensure) (sigC 142 (sp_ref09_set m_ref09_set) sigN))),
  keep := fun r => match r with | 5 => some [(1, some 0), (2, none), (3, none), (4, none), (5, none), (11, none)] | _ => none }

noncomputable def cfg_ref09_Drop (m_ref09_Kind : T_assartref02_Layout → Int → (List Int) → Option (Int)) (m_ref09_set : T_assartref02_Layout → Int → Int → Int → (List Int) → Option ((List Int))) : Cfg := { cfgB with
  sigs := (sigC 105 (sp_ref09_Kind m_ref09_Kind) (sigC 142 (sp_ref09_set m_ref09_set) sigN)),
  keep := fun r => match r with | 6 => some [(1, some 0), (2, none), (3, none), (7, none), (8, none)] | _ => none }

noncomputable def cfg_ref09_Trim (m_ref08_Count : T_assartref02_Layout → (List Int) → Option (Int)) (m_ref02_Layout_Chunks : T_assartref02_Layout → Option (Int)) (m_ref08_Pages : T_assartref02_Layout → Int → Option (Int × Int)) (m_ref09_open : T_assartref02_Layout → Int → Int → Bool → (List Int) → Option (Bool)) (m_ref08_Turn : T_assartref02_Layout → Int → Int → (List Int) → Option (Bool × (List Int))) : Cfg := { cfgB with
  sigs := (sigC 79 (sp_ref08_Count m_ref08_Count) (sigC 143 (sp_ref02_Layout_Chunks m_ref02_Layout_Chunks) (sigC 144 (sp_ref08_Pages m_ref08_Pages) (sigC 141 (sp_ref09_open m_ref09_open) (sigC 75 (sp_ref08_Turn m_ref08_Turn) sigN))))),
  keep := fun r => match r with | 3 => some [(1, some 0), (2, none), (5, none), (6, none)] | _ => none }

theorem nf_ref09_Kind (m_ref02_Layout_Kind : T_assartref02_Layout → Int → Option (Int)) (l2 : T_assartref02_Layout) (p : Int) (w : List Int) (K : V → Heap → Prop) : (exF (cfg_ref09_Kind m_ref02_Layout_Kind) Try.f105 [.agg (e_assartref02_Layout l2), .row 0, vi p] [.row 0 w true] K) = (
    br (Decidable.decide (p < 0)) (K (vi (-1)) [.row 0 (w : List (Int)) Bool.true]) (br (Decidable.decide (p ≥ T_api_Config.Pages (T_assartref02_Layout.C l2))) (K (vi (-1)) [.row 0 (w : List (Int)) Bool.true]) (So (m_ref02_Layout_Kind l2 p) (fun (y0 : Int) => (Req (inR y0 (List.length w)) (Req (inR (offs y0 0) (List.length w)) (K (vi (List.getD w (Int.toNat (offs y0 0)) 0)) [.row 0 (w : List (Int)) Bool.true]))))))) := by
  kernel_rfl

theorem nf_ref09_Used_L1 (m_ref09_Kind : T_assartref02_Layout → Int → (List Int) → Option (Int)) (l2 : T_assartref02_Layout) (w : List Int) (n : Int) (p : Int) (K : V → Heap → Prop) (J1 : Env → Heap → Prop) : (ex (cfg_ref09_Used m_ref09_Kind) (⟨22, 1⟩ : Cx) (at_ (bodyOf Try.f107) [1, 1, 0, 1, 0, 0]) (mkEnv [(1, .row 0), (2, .ptr 1 0), (5, vi (n)), (6, vi (p))]) [.row 0 (w : List (Int)) Bool.true, .cells 30 (e_api_Config (Go.Rx.T_assartref02_Layout.C l2))] (roundK (cfg_ref09_Used m_ref09_Kind) (⟨22, 1⟩ : Cx) (at_ (bodyOf Try.f107) [1, 1, 0, 1, 0, 0]) (contK (cfg_ref09_Used m_ref09_Kind) (⟨22, 1⟩ : Cx) (bodyOf Try.f107) [1, 1, 0, 1, 0] (retK (cfg_ref09_Used m_ref09_Kind) Try.f107 1 K)) J1)) = (
    br (Decidable.decide (p < T_api_Config.Pages (T_assartref02_Layout.C l2))) (So (m_ref09_Kind l2 p w) (fun (y0 : Int) => (br (y0 != 0) (J1 (mkEnv [(1, .row 0), (2, .ptr 1 0), (5, vi (IntKind.wrap IntKind.i64 (n + 1))), (6, vi (IntKind.wrap IntKind.i64 (p + 1)))]) [.row 0 (w : List (Int)) Bool.true, .cells 30 (e_api_Config (T_assartref02_Layout.C l2))]) (J1 (mkEnv [(1, .row 0), (2, .ptr 1 0), (5, vi (n)), (6, vi (IntKind.wrap IntKind.i64 (p + 1)))]) [.row 0 (w : List (Int)) Bool.true, .cells 30 (e_api_Config (T_assartref02_Layout.C l2))])))) (K (vi (n)) [.row 0 (w : List (Int)) Bool.true])) := by
  kernel_rfl

theorem nf_ref09_Used (m_ref09_Kind : T_assartref02_Layout → Int → (List Int) → Option (Int)) (l2 : T_assartref02_Layout) (w : List Int) (K : V → Heap → Prop) : (exF (cfg_ref09_Used m_ref09_Kind) Try.f107 [.agg (e_assartref02_Layout l2), .row 0] [.row 0 w true] K) = (
    Loop (cfg_ref09_Used m_ref09_Kind) (⟨22, 1⟩ : Cx) (at_ (bodyOf Try.f107) [1, 1, 0, 1, 0, 0]) (mkEnv [(1, .row 0), (2, .ptr 1 0), (5, vi (0)), (6, vi (0))]) [.row 0 (w : List (Int)) Bool.true, .cells 30 (e_api_Config (T_assartref02_Layout.C l2))] (contK (cfg_ref09_Used m_ref09_Kind) (⟨22, 1⟩ : Cx) (bodyOf Try.f107) [1, 1, 0, 1, 0] (retK (cfg_ref09_Used m_ref09_Kind) Try.f107 1 K))) := by
  kernel_rfl

theorem nf_ref09_First_L1 (m_ref09_Kind : T_assartref02_Layout → Int → (List Int) → Option (Int)) (l2 : T_assartref02_Layout) (p : Int) (w : List Int) (p2 : Int) (K : V → Heap → Prop) (J1 : Env → Heap → Prop) : (ex (cfg_ref09_First m_ref09_Kind) (⟨24, 1⟩ : Cx) (at_ (bodyOf Try.f106) [1, 1, 0, 0, 0]) (mkEnv [(1, .row 0), (2, vi (p2)), (3, .ptr 1 0)]) [.row 0 (w : List (Int)) Bool.true, .cells 30 (e_api_Config (Go.Rx.T_assartref02_Layout.C l2))] (roundK (cfg_ref09_First m_ref09_Kind) (⟨24, 1⟩ : Cx) (at_ (bodyOf Try.f106) [1, 1, 0, 0, 0]) (contK (cfg_ref09_First m_ref09_Kind) (⟨24, 1⟩ : Cx) (bodyOf Try.f106) [1, 1, 0, 0] (retK (cfg_ref09_First m_ref09_Kind) Try.f106 1 K)) J1)) = (
    br (Decidable.decide (p2 > 0)) (So (m_ref09_Kind l2 p2 w) (fun (y0 : Int) => (br (y0 == 7) (J1 (mkEnv [(1, .row 0), (2, vi (IntKind.wrap IntKind.i64 (p2 - 1))), (3, .ptr 1 0)]) [.row 0 (w : List (Int)) Bool.true, .cells 30 (e_api_Config (T_assartref02_Layout.C l2))]) (K (vi (p2)) [.row 0 (w : List (Int)) Bool.true])))) (K (vi (p2)) [.row 0 (w : List (Int)) Bool.true])) := by
  kernel_rfl

theorem nf_ref09_First (m_ref09_Kind : T_assartref02_Layout → Int → (List Int) → Option (Int)) (l2 : T_assartref02_Layout) (p : Int) (w : List Int) (K : V → Heap → Prop) : (exF (cfg_ref09_First m_ref09_Kind) Try.f106 [.agg (e_assartref02_Layout l2), .row 0, vi p] [.row 0 w true] K) = (
    So (m_ref09_Kind l2 p w) (fun (y0 : Int) => (br (Decidable.decide (y0 ≤ 0)) (K (vi (-1)) [.row 0 (w : List (Int)) Bool.true]) (Loop (cfg_ref09_First m_ref09_Kind) (⟨24, 1⟩ : Cx) (at_ (bodyOf Try.f106) [1, 1, 0, 0, 0]) (mkEnv [(1, .row 0), (2, vi (p)), (3, .ptr 1 0)]) [.row 0 (w : List (Int)) Bool.true, .cells 30 (e_api_Config (T_assartref02_Layout.C l2))] (contK (cfg_ref09_First m_ref09_Kind) (⟨24, 1⟩ : Cx) (bodyOf Try.f106) [1, 1, 0, 0] (retK (cfg_ref09_First m_ref09_Kind) Try.f106 1 K)))))) := by
  kernel_rfl

theorem nf_ref09_open_L1 (m_ref09_Kind : T_assartref02_Layout → Int → (List Int) → Option (Int)) (m_ref08_Of : Int → Option (Int)) (m_ref08_Mapped : T_assartref02_Layout → Int → (List Int) → Option (Bool)) (l2 : T_assartref02_Layout) (p : Int) (n : Int) (mapped : Bool) (w : List Int) (iv : Int) (K : V → Heap → Prop) (J1 : Env → Heap → Prop) : (ex (cfg_ref09_open m_ref09_Kind m_ref08_Of m_ref08_Mapped) (⟨58, 1⟩ : Cx) (at_ (bodyOf Try.f141) [1, 1, 0, 1, 0, 0]) (mkEnv [(1, .row 0), (2, vi (p)), (3, vi (n)), (4, vb (mapped)), (5, .ptr 1 0), (11, vi (iv))]) [.row 0 (w : List (Int)) Bool.true, .cells 30 (e_api_Config (Go.Rx.T_assartref02_Layout.C l2))] (roundK (cfg_ref09_open m_ref09_Kind m_ref08_Of m_ref08_Mapped) (⟨58, 1⟩ : Cx) (at_ (bodyOf Try.f141) [1, 1, 0, 1, 0, 0]) (contK (cfg_ref09_open m_ref09_Kind m_ref08_Of m_ref08_Mapped) (⟨58, 1⟩ : Cx) (bodyOf Try.f141) [1, 1, 0, 1, 0] (retK (cfg_ref09_open m_ref09_Kind m_ref08_Of m_ref08_Mapped) Try.f141 1 K)) J1)) = (
    br (Decidable.decide (iv < IntKind.wrap IntKind.i64 (p + n))) (So (m_ref09_Kind l2 iv w) (fun (y0 : Int) => (br (y0 != 0) (K (vb (Bool.false)) [.row 0 (w : List (Int)) Bool.true]) (br (mapped) (So (m_ref08_Of iv) (fun (y1 : Int) => (So (m_ref08_Mapped l2 y1 w) (fun (y2 : Bool) => (br (!y2) (K (vb (Bool.false)) [.row 0 (w : List (Int)) Bool.true]) (J1 (mkEnv [(1, .row 0), (2, vi (p)), (3, vi (n)), (4, vb (mapped)), (5, .ptr 1 0), (11, vi (IntKind.wrap IntKind.i64 (iv + 1)))]) [.row 0 (w : List (Int)) Bool.true, .cells 30 (e_api_Config (T_assartref02_Layout.C l2))])))))) (J1 (mkEnv [(1, .row 0), (2, vi (p)), (3, vi (n)), (4, vb (mapped)), (5, .ptr 1 0), (11, vi (IntKind.wrap IntKind.i64 (iv + 1)))]) [.row 0 (w : List (Int)) Bool.true, .cells 30 (e_api_Config (T_assartref02_Layout.C l2))]))))) (K (vb (Bool.true)) [.row 0 (w : List (Int)) Bool.true])) := by
  kernel_rfl

theorem nf_ref09_open (m_ref09_Kind : T_assartref02_Layout → Int → (List Int) → Option (Int)) (m_ref08_Of : Int → Option (Int)) (m_ref08_Mapped : T_assartref02_Layout → Int → (List Int) → Option (Bool)) (l2 : T_assartref02_Layout) (p : Int) (n : Int) (mapped : Bool) (w : List Int) (K : V → Heap → Prop) : (exF (cfg_ref09_open m_ref09_Kind m_ref08_Of m_ref08_Mapped) Try.f141 [.agg (e_assartref02_Layout l2), .row 0, vi p, vi n, vb mapped] [.row 0 w true] K) = (
    br (Decidable.decide (p < 0)) (K (vb (Bool.false)) [.row 0 (w : List (Int)) Bool.true]) (br (Decidable.decide (p ≥ T_api_Config.Pages (T_assartref02_Layout.C l2))) (K (vb (Bool.false)) [.row 0 (w : List (Int)) Bool.true]) (br (Decidable.decide (n < 1)) (K (vb (Bool.false)) [.row 0 (w : List (Int)) Bool.true]) (br (Decidable.decide (n > IntKind.wrap IntKind.i64 (T_api_Config.Pages (T_assartref02_Layout.C l2) - p))) (K (vb (Bool.false)) [.row 0 (w : List (Int)) Bool.true]) (Loop (cfg_ref09_open m_ref09_Kind m_ref08_Of m_ref08_Mapped) (⟨58, 1⟩ : Cx) (at_ (bodyOf Try.f141) [1, 1, 0, 1, 0, 0]) (mkEnv [(1, .row 0), (2, vi (p)), (3, vi (n)), (4, vb (mapped)), (5, .ptr 1 0), (11, vi (p))]) [.row 0 (w : List (Int)) Bool.true, .cells 30 (e_api_Config (T_assartref02_Layout.C l2))] (contK (cfg_ref09_open m_ref09_Kind m_ref08_Of m_ref08_Mapped) (⟨58, 1⟩ : Cx) (bodyOf Try.f141) [1, 1, 0, 1, 0] (retK (cfg_ref09_open m_ref09_Kind m_ref08_Of m_ref08_Mapped) Try.f141 1 K))))))) := by
  kernel_rfl

theorem nf_ref09_Find_L2 (m_ref09_open : T_assartref02_Layout → Int → Int → Bool → (List Int) → Option (Bool)) (l2 : T_assartref02_Layout) (n : Int) (step : Int) (w : List Int) (p : Int) (K : V → Heap → Prop) (J1 : Env → Heap → Prop) : (ex (cfg_ref09_Find m_ref09_open) (⟨55, 1⟩ : Cx) (at_ (bodyOf Try.f101) [1, 1, 1, 0, 1, 0, 0]) (mkEnv [(1, .row 0), (2, vi (n)), (3, vi (step)), (4, .ptr 1 0), (10, vi (p))]) [.row 0 (w : List (Int)) Bool.true, .cells 30 (e_api_Config (Go.Rx.T_assartref02_Layout.C l2))] (roundK (cfg_ref09_Find m_ref09_open) (⟨55, 1⟩ : Cx) (at_ (bodyOf Try.f101) [1, 1, 1, 0, 1, 0, 0]) (contK (cfg_ref09_Find m_ref09_open) (⟨55, 1⟩ : Cx) (bodyOf Try.f101) [1, 1, 1, 0, 1, 0] (retK (cfg_ref09_Find m_ref09_open) Try.f101 1 K)) J1)) = (
    br (Decidable.decide (p < T_api_Config.Pages (T_assartref02_Layout.C l2))) (Req (!step == 0) (br (Int.tmod p step == 0) (So (m_ref09_open l2 p n Bool.false w) (fun (y0 : Bool) => (br (y0) (K (vi (p)) [.row 0 (w : List (Int)) Bool.true]) (J1 (mkEnv [(1, .row 0), (2, vi (n)), (3, vi (step)), (4, .ptr 1 0), (10, vi (IntKind.wrap IntKind.i64 (p + 1)))]) [.row 0 (w : List (Int)) Bool.true, .cells 30 (e_api_Config (T_assartref02_Layout.C l2))])))) (J1 (mkEnv [(1, .row 0), (2, vi (n)), (3, vi (step)), (4, .ptr 1 0), (10, vi (IntKind.wrap IntKind.i64 (p + 1)))]) [.row 0 (w : List (Int)) Bool.true, .cells 30 (e_api_Config (T_assartref02_Layout.C l2))]))) (K (vi (-1)) [.row 0 (w : List (Int)) Bool.true])) := by
  kernel_rfl

theorem nf_ref09_Find_L1 (m_ref09_open : T_assartref02_Layout → Int → Int → Bool → (List Int) → Option (Bool)) (l2 : T_assartref02_Layout) (n : Int) (step : Int) (w : List Int) (p : Int) (K : V → Heap → Prop) (J1 : Env → Heap → Prop) : (ex (cfg_ref09_Find m_ref09_open) (⟨55, 1⟩ : Cx) (at_ (bodyOf Try.f101) [1, 1, 0, 1, 0, 0]) (mkEnv [(1, .row 0), (2, vi (n)), (3, vi (step)), (4, .ptr 1 0), (9, vi (p))]) [.row 0 (w : List (Int)) Bool.true, .cells 30 (e_api_Config (Go.Rx.T_assartref02_Layout.C l2))] (roundK (cfg_ref09_Find m_ref09_open) (⟨55, 1⟩ : Cx) (at_ (bodyOf Try.f101) [1, 1, 0, 1, 0, 0]) (contK (cfg_ref09_Find m_ref09_open) (⟨55, 1⟩ : Cx) (bodyOf Try.f101) [1, 1, 0, 1, 0] (retK (cfg_ref09_Find m_ref09_open) Try.f101 1 K)) J1)) = (
    br (Decidable.decide (p < T_api_Config.Pages (T_assartref02_Layout.C l2))) (Req (!step == 0) (br (Int.tmod p step == 0) (So (m_ref09_open l2 p n Bool.true w) (fun (y0 : Bool) => (br (y0) (K (vi (p)) [.row 0 (w : List (Int)) Bool.true]) (J1 (mkEnv [(1, .row 0), (2, vi (n)), (3, vi (step)), (4, .ptr 1 0), (9, vi (IntKind.wrap IntKind.i64 (p + 1)))]) [.row 0 (w : List (Int)) Bool.true, .cells 30 (e_api_Config (T_assartref02_Layout.C l2))])))) (J1 (mkEnv [(1, .row 0), (2, vi (n)), (3, vi (step)), (4, .ptr 1 0), (9, vi (IntKind.wrap IntKind.i64 (p + 1)))]) [.row 0 (w : List (Int)) Bool.true, .cells 30 (e_api_Config (T_assartref02_Layout.C l2))]))) (Loop (cfg_ref09_Find m_ref09_open) (⟨55, 1⟩ : Cx) (at_ (bodyOf Try.f101) [1, 1, 1, 0, 1, 0, 0]) (mkEnv [(1, .row 0), (2, vi (n)), (3, vi (step)), (4, .ptr 1 0), (10, vi (0))]) [.row 0 (w : List (Int)) Bool.true, .cells 30 (e_api_Config (T_assartref02_Layout.C l2))] (contK (cfg_ref09_Find m_ref09_open) (⟨55, 1⟩ : Cx) (bodyOf Try.f101) [1, 1, 1, 0, 1, 0] (retK (cfg_ref09_Find m_ref09_open) Try.f101 1 K)))) := by
  kernel_rfl

theorem nf_ref09_Find (m_ref09_open : T_assartref02_Layout → Int → Int → Bool → (List Int) → Option (Bool)) (l2 : T_assartref02_Layout) (n : Int) (step : Int) (w : List Int) (K : V → Heap → Prop) : (exF (cfg_ref09_Find m_ref09_open) Try.f101 [.agg (e_assartref02_Layout l2), .row 0, vi n, vi step] [.row 0 w true] K) = (
    br (Decidable.decide (n < 1)) (K (vi (-1)) [.row 0 (w : List (Int)) Bool.true]) (br (Decidable.decide (step < 1)) (K (vi (-1)) [.row 0 (w : List (Int)) Bool.true]) (Loop (cfg_ref09_Find m_ref09_open) (⟨55, 1⟩ : Cx) (at_ (bodyOf Try.f101) [1, 1, 0, 1, 0, 0]) (mkEnv [(1, .row 0), (2, vi (n)), (3, vi (step)), (4, .ptr 1 0), (9, vi (0))]) [.row 0 (w : List (Int)) Bool.true, .cells 30 (e_api_Config (T_assartref02_Layout.C l2))] (contK (cfg_ref09_Find m_ref09_open) (⟨55, 1⟩ : Cx) (bodyOf Try.f101) [1, 1, 0, 1, 0] (retK (cfg_ref09_Find m_ref09_open) Try.f101 1 K))))) := by
  kernel_rfl

theorem nf_ref09_set (m_ref02_Layout_Kind : T_assartref02_Layout → Int → Option (Int)) (m_ref02_Layout_Count : T_assartref02_Layout → Int → Option (Int)) (m_ref02_Layout_Bits : T_assartref02_Layout → Int → Option (Int)) (l2 : T_assartref02_Layout) (p : Int) (kindv : Int) (count : Int) (w : List Int) (K : V → Heap → Prop) : (exF (cfg_ref09_set m_ref02_Layout_Kind m_ref02_Layout_Count m_ref02_Layout_Bits) Try.f142 [.agg (e_assartref02_Layout l2), .row 0, vi p, vi kindv, vi count] [.row 0 w false] K) = (
    So (m_ref02_Layout_Kind l2 p) (fun (y0 : Int) => (Req (inR y0 (List.length w)) (Req (inR (offs y0 0) (List.length w)) (So (m_ref02_Layout_Count l2 p) (fun (y1 : Int) => (Req (inR y1 (List.length (List.set w (Int.toNat (offs y0 0)) kindv))) (Req (inR (offs y1 0) (List.length (List.set w (Int.toNat (offs y0 0)) kindv))) (So (m_ref02_Layout_Bits l2 p) (fun (y2 : Int) => (Req (inR y2 (List.length (List.set (List.set w (Int.toNat (offs y0 0)) kindv) (Int.toNat (offs y1 0)) count))) (Req (inR (offs y2 0) (List.length (List.set (List.set w (Int.toNat (offs y0 0)) kindv) (Int.toNat (offs y1 0)) count))) (K (.tup []) [.row 0 (List.set (List.set (List.set w (Int.toNat (offs y0 0)) kindv) (Int.toNat (offs y1 0)) count) (Int.toNat (offs y2 0)) 0 : List (Int)) Bool.false]))))))))))))) := by
  kernel_rfl

theorem nf_ref09_Take_L1 (m_ref09_open : T_assartref02_Layout → Int → Int → Bool → (List Int) → Option (Bool)) (m_ref08_Ensure : T_assartref02_Layout → Int → Int → (List Int) → Option (Int × (List Int))) (m_ref09_set : T_assartref02_Layout → Int → Int → Int → (List Int) → Option ((List Int))) (l2 : T_assartref02_Layout) (p : Int) (n : Int) (kindv : Int) (w : List Int) (iv : Int) (w2 : List Int) (K : V → Heap → Prop) (J1 : Env → Heap → Prop) : (ex (cfg_ref09_Take m_ref09_open m_ref08_Ensure m_ref09_set) (⟨64, 1⟩ : Cx) (at_ (bodyOf Try.f102) [1, 1, 1, 0, 1, 0, 0]) (mkEnv [(1, .row 0), (2, vi (p)), (3, vi (n)), (4, vi (kindv)), (5, .ptr 1 0), (11, vi (iv))]) [.row 0 (w2 : List (Int)) Bool.false, .cells 30 (e_api_Config (Go.Rx.T_assartref02_Layout.C l2))] (roundK (cfg_ref09_Take m_ref09_open m_ref08_Ensure m_ref09_set) (⟨64, 1⟩ : Cx) (at_ (bodyOf Try.f102) [1, 1, 1, 0, 1, 0, 0]) (contK (cfg_ref09_Take m_ref09_open m_ref08_Ensure m_ref09_set) (⟨64, 1⟩ : Cx) (bodyOf Try.f102) [1, 1, 1, 0, 1, 0] (retK (cfg_ref09_Take m_ref09_open m_ref08_Ensure m_ref09_set) Try.f102 1 K)) J1)) = (
    br (Decidable.decide (iv < IntKind.wrap IntKind.i64 (p + n))) (So (m_ref09_set l2 iv 7 0 w2) (fun (y0 : List Int) => (J1 (mkEnv [(1, .row 0), (2, vi (p)), (3, vi (n)), (4, vi (kindv)), (5, .ptr 1 0), (11, vi (IntKind.wrap IntKind.i64 (iv + 1)))]) [.row 0 (y0 : List (Int)) Bool.false, .cells 30 (e_api_Config (T_assartref02_Layout.C l2))]))) (br (kindv == 6) (So (m_ref09_set l2 p kindv n w2) (fun (y1 : List Int) => (K (vb (Bool.true)) [.row 0 (y1 : List (Int)) Bool.false]))) (So (m_ref09_set l2 p kindv 0 w2) (fun (y2 : List Int) => (K (vb (Bool.true)) [.row 0 (y2 : List (Int)) Bool.false]))))) := by
  kernel_rfl

theorem nf_ref09_Take (m_ref09_open : T_assartref02_Layout → Int → Int → Bool → (List Int) → Option (Bool)) (m_ref08_Ensure : T_assartref02_Layout → Int → Int → (List Int) → Option (Int × (List Int))) (m_ref09_set : T_assartref02_Layout → Int → Int → Int → (List Int) → Option ((List Int))) (l2 : T_assartref02_Layout) (p : Int) (n : Int) (kindv : Int) (w : List Int) (K : V → Heap → Prop) : (exF (cfg_ref09_Take m_ref09_open m_ref08_Ensure m_ref09_set) Try.f102 [.agg (e_assartref02_Layout l2), .row 0, vi p, vi n, vi kindv] [.row 0 w false] K) = (
    So (m_ref09_open l2 p n Bool.false w) (fun (y0 : Bool) => (br (!y0) (K (vb (Bool.false)) [.row 0 (w : List (Int)) Bool.false]) (br (Decidable.decide (kindv < 1)) (K (vb (Bool.false)) [.row 0 (w : List (Int)) Bool.false]) (br (Decidable.decide (kindv > 6)) (K (vb (Bool.false)) [.row 0 (w : List (Int)) Bool.false]) (br (Decidable.decide (kindv < 6)) (br (n != 1) (K (vb (Bool.false)) [.row 0 (w : List (Int)) Bool.false]) (So (m_ref08_Ensure l2 p n w) (fun (y1 : Int × List Int) => (Loop (cfg_ref09_Take m_ref09_open m_ref08_Ensure m_ref09_set) (⟨64, 1⟩ : Cx) (at_ (bodyOf Try.f102) [1, 1, 1, 0, 1, 0, 0]) (mkEnv [(1, .row 0), (2, vi (p)), (3, vi (n)), (4, vi (kindv)), (5, .ptr 1 0), (11, vi (p))]) [.row 0 (Prod.snd y1 : List (Int)) Bool.false, .cells 30 (e_api_Config (T_assartref02_Layout.C l2))] (contK (cfg_ref09_Take m_ref09_open m_ref08_Ensure m_ref09_set) (⟨64, 1⟩ : Cx) (bodyOf Try.f102) [1, 1, 1, 0, 1, 0] (retK (cfg_ref09_Take m_ref09_open m_ref08_Ensure m_ref09_set) Try.f102 1 K)))))) (So (m_ref08_Ensure l2 p n w) (fun (y2 : Int × List Int) => (Loop (cfg_ref09_Take m_ref09_open m_ref08_Ensure m_ref09_set) (⟨64, 1⟩ : Cx) (at_ (bodyOf Try.f102) [1, 1, 1, 0, 1, 0, 0]) (mkEnv [(1, .row 0), (2, vi (p)), (3, vi (n)), (4, vi (kindv)), (5, .ptr 1 0), (11, vi (p))]) [.row 0 (Prod.snd y2 : List (Int)) Bool.false, .cells 30 (e_api_Config (T_assartref02_Layout.C l2))] (contK (cfg_ref09_Take m_ref09_open m_ref08_Ensure m_ref09_set) (⟨64, 1⟩ : Cx) (bodyOf Try.f102) [1, 1, 1, 0, 1, 0] (retK (cfg_ref09_Take m_ref09_open m_ref08_Ensure m_ref09_set) Try.f102 1 K))))))))))) := by
  kernel_rfl

theorem nf_ref09_Drop_L1 (m_ref09_Kind : T_assartref02_Layout → Int → (List Int) → Option (Int)) (m_ref09_set : T_assartref02_Layout → Int → Int → Int → (List Int) → Option ((List Int))) (l2 : T_assartref02_Layout) (p : Int) (w : List Int) (k : Int) (n : Int) (w2 : List Int) (K : V → Heap → Prop) (J1 : Env → Heap → Prop) : (ex (cfg_ref09_Drop m_ref09_Kind m_ref09_set) (⟨43, 1⟩ : Cx) (at_ (bodyOf Try.f103) [1, 1, 1, 1, 1, 0, 0, 0]) (mkEnv [(1, .row 0), (2, vi (p)), (3, .ptr 1 0), (7, vi (k)), (8, vi (n))]) [.row 0 (w2 : List (Int)) Bool.false, .cells 30 (e_api_Config (Go.Rx.T_assartref02_Layout.C l2))] (roundK (cfg_ref09_Drop m_ref09_Kind m_ref09_set) (⟨43, 1⟩ : Cx) (at_ (bodyOf Try.f103) [1, 1, 1, 1, 1, 0, 0, 0]) (contK (cfg_ref09_Drop m_ref09_Kind m_ref09_set) (⟨43, 1⟩ : Cx) (bodyOf Try.f103) [1, 1, 1, 1, 1, 0, 0] (retK (cfg_ref09_Drop m_ref09_Kind m_ref09_set) Try.f103 1 K)) J1)) = (
    br (k == 6) (So (m_ref09_Kind l2 (IntKind.wrap IntKind.i64 (p + n)) w2) (fun (y0 : Int) => (br (y0 == 7) (So (m_ref09_set l2 (IntKind.wrap IntKind.i64 (p + n)) 0 0 w2) (fun (y1 : List Int) => (J1 (mkEnv [(1, .row 0), (2, vi (p)), (3, .ptr 1 0), (7, vi (k)), (8, vi (IntKind.wrap IntKind.i64 (n + 1)))]) [.row 0 (y1 : List (Int)) Bool.false, .cells 30 (e_api_Config (T_assartref02_Layout.C l2))]))) (K (vi (n)) [.row 0 (w2 : List (Int)) Bool.false])))) (K (vi (n)) [.row 0 (w2 : List (Int)) Bool.false])) := by
  kernel_rfl

theorem nf_ref09_Drop (m_ref09_Kind : T_assartref02_Layout → Int → (List Int) → Option (Int)) (m_ref09_set : T_assartref02_Layout → Int → Int → Int → (List Int) → Option ((List Int))) (l2 : T_assartref02_Layout) (p : Int) (w : List Int) (K : V → Heap → Prop) : (exF (cfg_ref09_Drop m_ref09_Kind m_ref09_set) Try.f103 [.agg (e_assartref02_Layout l2), .row 0, vi p] [.row 0 w false] K) = (
    So (m_ref09_Kind l2 p w) (fun (y0 : Int) => (br (Decidable.decide (y0 < 1)) (K (vi (0)) [.row 0 (w : List (Int)) Bool.false]) (br (Decidable.decide (y0 > 6)) (K (vi (0)) [.row 0 (w : List (Int)) Bool.false]) (So (m_ref09_set l2 p 0 0 w) (fun (y1 : List Int) => (Loop (cfg_ref09_Drop m_ref09_Kind m_ref09_set) (⟨43, 1⟩ : Cx) (at_ (bodyOf Try.f103) [1, 1, 1, 1, 1, 0, 0, 0]) (mkEnv [(1, .row 0), (2, vi (p)), (3, .ptr 1 0), (7, vi (y0)), (8, vi (1))]) [.row 0 (y1 : List (Int)) Bool.false, .cells 30 (e_api_Config (T_assartref02_Layout.C l2))] (contK (cfg_ref09_Drop m_ref09_Kind m_ref09_set) (⟨43, 1⟩ : Cx) (bodyOf Try.f103) [1, 1, 1, 1, 1, 0, 0] (retK (cfg_ref09_Drop m_ref09_Kind m_ref09_set) Try.f103 1 K))))))))) := by
  kernel_rfl

theorem nf_ref09_Trim_L1 (m_ref08_Count : T_assartref02_Layout → (List Int) → Option (Int)) (m_ref02_Layout_Chunks : T_assartref02_Layout → Option (Int)) (m_ref08_Pages : T_assartref02_Layout → Int → Option (Int × Int)) (m_ref09_open : T_assartref02_Layout → Int → Int → Bool → (List Int) → Option (Bool)) (m_ref08_Turn : T_assartref02_Layout → Int → Int → (List Int) → Option (Bool × (List Int))) (l2 : T_assartref02_Layout) (w : List Int) (was : Int) (k : Int) (w2 : List Int) (K : V → Heap → Prop) (J1 : Env → Heap → Prop) : (ex (cfg_ref09_Trim m_ref08_Count m_ref02_Layout_Chunks m_ref08_Pages m_ref09_open m_ref08_Turn) (⟨38, 1⟩ : Cx) (at_ (bodyOf Try.f104) [1, 1, 0, 1, 0, 0]) (mkEnv [(1, .row 0), (2, .ptr 1 0), (5, vi (was)), (6, vi (k))]) [.row 0 (w2 : List (Int)) Bool.false, .cells 30 (e_api_Config (Go.Rx.T_assartref02_Layout.C l2))] (roundK (cfg_ref09_Trim m_ref08_Count m_ref02_Layout_Chunks m_ref08_Pages m_ref09_open m_ref08_Turn) (⟨38, 1⟩ : Cx) (at_ (bodyOf Try.f104) [1, 1, 0, 1, 0, 0]) (contK (cfg_ref09_Trim m_ref08_Count m_ref02_Layout_Chunks m_ref08_Pages m_ref09_open m_ref08_Turn) (⟨38, 1⟩ : Cx) (bodyOf Try.f104) [1, 1, 0, 1, 0] (retK (cfg_ref09_Trim m_ref08_Count m_ref02_Layout_Chunks m_ref08_Pages m_ref09_open m_ref08_Turn) Try.f104 1 K)) J1)) = (
    So (m_ref02_Layout_Chunks l2) (fun (y0 : Int) => (br (Decidable.decide (k < y0)) (So (m_ref08_Pages l2 k) (fun (y1 : Int × Int) => (So (m_ref09_open l2 (Prod.fst y1) (Prod.snd y1) Bool.false w2) (fun (y2 : Bool) => (br (y2) (So (m_ref08_Turn l2 k 0 w2) (fun (y3 : Bool × List Int) => (J1 (mkEnv [(1, .row 0), (2, .ptr 1 0), (5, vi (was)), (6, vi (IntKind.wrap IntKind.i64 (k + 1)))]) [.row 0 (Prod.snd y3 : List (Int)) Bool.false, .cells 30 (e_api_Config (T_assartref02_Layout.C l2))]))) (J1 (mkEnv [(1, .row 0), (2, .ptr 1 0), (5, vi (was)), (6, vi (IntKind.wrap IntKind.i64 (k + 1)))]) [.row 0 (w2 : List (Int)) Bool.false, .cells 30 (e_api_Config (T_assartref02_Layout.C l2))])))))) (So (m_ref08_Count l2 w2) (fun (y4 : Int) => (K (vi (IntKind.wrap IntKind.i64 (was - y4))) [.row 0 (w2 : List (Int)) Bool.false])))))) := by
  kernel_rfl

theorem nf_ref09_Trim (m_ref08_Count : T_assartref02_Layout → (List Int) → Option (Int)) (m_ref02_Layout_Chunks : T_assartref02_Layout → Option (Int)) (m_ref08_Pages : T_assartref02_Layout → Int → Option (Int × Int)) (m_ref09_open : T_assartref02_Layout → Int → Int → Bool → (List Int) → Option (Bool)) (m_ref08_Turn : T_assartref02_Layout → Int → Int → (List Int) → Option (Bool × (List Int))) (l2 : T_assartref02_Layout) (w : List Int) (K : V → Heap → Prop) : (exF (cfg_ref09_Trim m_ref08_Count m_ref02_Layout_Chunks m_ref08_Pages m_ref09_open m_ref08_Turn) Try.f104 [.agg (e_assartref02_Layout l2), .row 0] [.row 0 w false] K) = (
    So (m_ref08_Count l2 w) (fun (y0 : Int) => (Loop (cfg_ref09_Trim m_ref08_Count m_ref02_Layout_Chunks m_ref08_Pages m_ref09_open m_ref08_Turn) (⟨38, 1⟩ : Cx) (at_ (bodyOf Try.f104) [1, 1, 0, 1, 0, 0]) (mkEnv [(1, .row 0), (2, .ptr 1 0), (5, vi (y0)), (6, vi (0))]) [.row 0 (w : List (Int)) Bool.false, .cells 30 (e_api_Config (T_assartref02_Layout.C l2))] (contK (cfg_ref09_Trim m_ref08_Count m_ref02_Layout_Chunks m_ref08_Pages m_ref09_open m_ref08_Turn) (⟨38, 1⟩ : Cx) (bodyOf Try.f104) [1, 1, 0, 1, 0] (retK (cfg_ref09_Trim m_ref08_Count m_ref02_Layout_Chunks m_ref08_Pages m_ref09_open m_ref08_Turn) Try.f104 1 K))))) := by
  kernel_rfl

noncomputable def m_ref09_Kind (l2 : T_assartref02_Layout) (p : Int) (w : List Int) : Option (Int) :=
  (bif (Decidable.decide (p < 0)) then some ((-1)) else (bif (Decidable.decide (p ≥ T_api_Config.Pages (T_assartref02_Layout.C l2))) then some ((-1)) else ((m_ref02_Layout_Kind l2 p).bind fun y0 => (bif (inR y0 (List.length w)) then (bif (inR (offs y0 0) (List.length w)) then some ((List.getD w (Int.toNat (offs y0 0)) 0)) else none) else none))))

noncomputable def sb_ref09_Used_L1 (l2 : T_assartref02_Layout) (w : List Int) (n : Int) (p : Int) : Option ((Int × Int) ⊕ (Int)) :=
  (bif (Decidable.decide (p < T_api_Config.Pages (T_assartref02_Layout.C l2))) then ((m_ref09_Kind l2 p w).bind fun y0 => (bif (y0 != 0) then some (.inl ((IntKind.wrap IntKind.i64 (n + 1)), (IntKind.wrap IntKind.i64 (p + 1)))) else some (.inl ((n), (IntKind.wrap IntKind.i64 (p + 1)))))) else some (.inr ((n))))

noncomputable def lp_ref09_Used_L1 (l2 : T_assartref02_Layout) (w : List Int) (s : Int × Int) : Option (Int) :=
  loopO (fun s => sb_ref09_Used_L1 l2 w s.1 s.2) s

noncomputable def m_ref09_Used (l2 : T_assartref02_Layout) (w : List Int) : Option (Int) :=
  (lp_ref09_Used_L1 l2 w ((0), (0)))

noncomputable def sb_ref09_First_L1 (l2 : T_assartref02_Layout) (w : List Int) (p2 : Int) : Option ((Int) ⊕ (Int)) :=
  (bif (Decidable.decide (p2 > 0)) then ((m_ref09_Kind l2 p2 w).bind fun y0 => (bif (y0 == 7) then some (.inl (IntKind.wrap IntKind.i64 (p2 - 1))) else some (.inr ((p2))))) else some (.inr ((p2))))

noncomputable def lp_ref09_First_L1 (l2 : T_assartref02_Layout) (w : List Int) (s : Int) : Option (Int) :=
  loopO (fun s => sb_ref09_First_L1 l2 w s) s

noncomputable def m_ref09_First (l2 : T_assartref02_Layout) (p : Int) (w : List Int) : Option (Int) :=
  ((m_ref09_Kind l2 p w).bind fun y0 => (bif (Decidable.decide (y0 ≤ 0)) then some ((-1)) else (lp_ref09_First_L1 l2 w (p))))

noncomputable def sb_ref09_open_L1 (l2 : T_assartref02_Layout) (p : Int) (n : Int) (mapped : Bool) (w : List Int) (iv : Int) : Option ((Int) ⊕ (Bool)) :=
  (bif (Decidable.decide (iv < IntKind.wrap IntKind.i64 (p + n))) then ((m_ref09_Kind l2 iv w).bind fun y0 => (bif (y0 != 0) then some (.inr ((Bool.false))) else (bif (mapped) then ((m_ref08_Of iv).bind fun y1 => ((m_ref08_Mapped l2 y1 w).bind fun y2 => (bif (!y2) then some (.inr ((Bool.false))) else some (.inl (IntKind.wrap IntKind.i64 (iv + 1)))))) else some (.inl (IntKind.wrap IntKind.i64 (iv + 1)))))) else some (.inr ((Bool.true))))

noncomputable def lp_ref09_open_L1 (l2 : T_assartref02_Layout) (p : Int) (n : Int) (mapped : Bool) (w : List Int) (s : Int) : Option (Bool) :=
  loopO (fun s => sb_ref09_open_L1 l2 p n mapped w s) s

noncomputable def m_ref09_open (l2 : T_assartref02_Layout) (p : Int) (n : Int) (mapped : Bool) (w : List Int) : Option (Bool) :=
  (bif (Decidable.decide (p < 0)) then some ((Bool.false)) else (bif (Decidable.decide (p ≥ T_api_Config.Pages (T_assartref02_Layout.C l2))) then some ((Bool.false)) else (bif (Decidable.decide (n < 1)) then some ((Bool.false)) else (bif (Decidable.decide (n > IntKind.wrap IntKind.i64 (T_api_Config.Pages (T_assartref02_Layout.C l2) - p))) then some ((Bool.false)) else (lp_ref09_open_L1 l2 p n mapped w (p))))))

noncomputable def sb_ref09_Find_L2 (l2 : T_assartref02_Layout) (n : Int) (step : Int) (w : List Int) (p : Int) : Option ((Int) ⊕ (Int)) :=
  (bif (Decidable.decide (p < T_api_Config.Pages (T_assartref02_Layout.C l2))) then (bif (!step == 0) then (bif (Int.tmod p step == 0) then ((m_ref09_open l2 p n Bool.false w).bind fun y0 => (bif (y0) then some (.inr ((p))) else some (.inl (IntKind.wrap IntKind.i64 (p + 1))))) else some (.inl (IntKind.wrap IntKind.i64 (p + 1)))) else none) else some (.inr ((-1))))

noncomputable def lp_ref09_Find_L2 (l2 : T_assartref02_Layout) (n : Int) (step : Int) (w : List Int) (s : Int) : Option (Int) :=
  loopO (fun s => sb_ref09_Find_L2 l2 n step w s) s

noncomputable def sb_ref09_Find_L1 (l2 : T_assartref02_Layout) (n : Int) (step : Int) (w : List Int) (p : Int) : Option ((Int) ⊕ (Int)) :=
  (bif (Decidable.decide (p < T_api_Config.Pages (T_assartref02_Layout.C l2))) then (bif (!step == 0) then (bif (Int.tmod p step == 0) then ((m_ref09_open l2 p n Bool.true w).bind fun y0 => (bif (y0) then some (.inr ((p))) else some (.inl (IntKind.wrap IntKind.i64 (p + 1))))) else some (.inl (IntKind.wrap IntKind.i64 (p + 1)))) else none) else ((lp_ref09_Find_L2 l2 n step w (0)).bind fun z => some (.inr z)))

noncomputable def lp_ref09_Find_L1 (l2 : T_assartref02_Layout) (n : Int) (step : Int) (w : List Int) (s : Int) : Option (Int) :=
  loopO (fun s => sb_ref09_Find_L1 l2 n step w s) s

noncomputable def m_ref09_Find (l2 : T_assartref02_Layout) (n : Int) (step : Int) (w : List Int) : Option (Int) :=
  (bif (Decidable.decide (n < 1)) then some ((-1)) else (bif (Decidable.decide (step < 1)) then some ((-1)) else (lp_ref09_Find_L1 l2 n step w (0))))

noncomputable def m_ref09_set (l2 : T_assartref02_Layout) (p : Int) (kindv : Int) (count : Int) (w : List Int) : Option ((List Int)) :=
  ((m_ref02_Layout_Kind l2 p).bind fun y0 => (bif (inR y0 (List.length w)) then (bif (inR (offs y0 0) (List.length w)) then ((m_ref02_Layout_Count l2 p).bind fun y1 => (bif (inR y1 (List.length (List.set w (Int.toNat (offs y0 0)) kindv))) then (bif (inR (offs y1 0) (List.length (List.set w (Int.toNat (offs y0 0)) kindv))) then ((m_ref02_Layout_Bits l2 p).bind fun y2 => (bif (inR y2 (List.length (List.set (List.set w (Int.toNat (offs y0 0)) kindv) (Int.toNat (offs y1 0)) count))) then (bif (inR (offs y2 0) (List.length (List.set (List.set w (Int.toNat (offs y0 0)) kindv) (Int.toNat (offs y1 0)) count))) then some ((List.set (List.set (List.set w (Int.toNat (offs y0 0)) kindv) (Int.toNat (offs y1 0)) count) (Int.toNat (offs y2 0)) 0)) else none) else none)) else none) else none)) else none) else none))

noncomputable def sb_ref09_Take_L1 (l2 : T_assartref02_Layout) (p : Int) (n : Int) (kindv : Int) (iv : Int) (w2 : List Int) : Option ((Int × (List Int)) ⊕ (Bool × (List Int))) :=
  (bif (Decidable.decide (iv < IntKind.wrap IntKind.i64 (p + n))) then ((m_ref09_set l2 iv 7 0 w2).bind fun y0 => some (.inl ((IntKind.wrap IntKind.i64 (iv + 1)), (y0)))) else (bif (kindv == 6) then ((m_ref09_set l2 p kindv n w2).bind fun y1 => some (.inr (((Bool.true), (y1))))) else ((m_ref09_set l2 p kindv 0 w2).bind fun y2 => some (.inr (((Bool.true), (y2)))))))

noncomputable def lp_ref09_Take_L1 (l2 : T_assartref02_Layout) (p : Int) (n : Int) (kindv : Int) (s : Int × (List Int)) : Option (Bool × (List Int)) :=
  loopO (fun s => sb_ref09_Take_L1 l2 p n kindv s.1 s.2) s

noncomputable def m_ref09_Take (l2 : T_assartref02_Layout) (p : Int) (n : Int) (kindv : Int) (w : List Int) : Option (Bool × (List Int)) :=
  ((m_ref09_open l2 p n Bool.false w).bind fun y0 => (bif (!y0) then some (((Bool.false), (w))) else (bif (Decidable.decide (kindv < 1)) then some (((Bool.false), (w))) else (bif (Decidable.decide (kindv > 6)) then some (((Bool.false), (w))) else (bif (Decidable.decide (kindv < 6)) then (bif (n != 1) then some (((Bool.false), (w))) else ((m_ref08_Ensure l2 p n w).bind fun y1 => (lp_ref09_Take_L1 l2 p n kindv ((p), (Prod.snd y1))))) else ((m_ref08_Ensure l2 p n w).bind fun y2 => (lp_ref09_Take_L1 l2 p n kindv ((p), (Prod.snd y2)))))))))

noncomputable def sb_ref09_Drop_L1 (l2 : T_assartref02_Layout) (p : Int) (k : Int) (n : Int) (w2 : List Int) : Option ((Int × (List Int)) ⊕ (Int × (List Int))) :=
  (bif (k == 6) then ((m_ref09_Kind l2 (IntKind.wrap IntKind.i64 (p + n)) w2).bind fun y0 => (bif (y0 == 7) then ((m_ref09_set l2 (IntKind.wrap IntKind.i64 (p + n)) 0 0 w2).bind fun y1 => some (.inl ((IntKind.wrap IntKind.i64 (n + 1)), (y1)))) else some (.inr (((n), (w2)))))) else some (.inr (((n), (w2)))))

noncomputable def lp_ref09_Drop_L1 (l2 : T_assartref02_Layout) (p : Int) (k : Int) (s : Int × (List Int)) : Option (Int × (List Int)) :=
  loopO (fun s => sb_ref09_Drop_L1 l2 p k s.1 s.2) s

noncomputable def m_ref09_Drop (l2 : T_assartref02_Layout) (p : Int) (w : List Int) : Option (Int × (List Int)) :=
  ((m_ref09_Kind l2 p w).bind fun y0 => (bif (Decidable.decide (y0 < 1)) then some (((0), (w))) else (bif (Decidable.decide (y0 > 6)) then some (((0), (w))) else ((m_ref09_set l2 p 0 0 w).bind fun y1 => (lp_ref09_Drop_L1 l2 p (y0) ((1), (y1)))))))

noncomputable def sb_ref09_Trim_L1 (l2 : T_assartref02_Layout) (was : Int) (k : Int) (w2 : List Int) : Option ((Int × (List Int)) ⊕ (Int × (List Int))) :=
  ((m_ref02_Layout_Chunks l2).bind fun y0 => (bif (Decidable.decide (k < y0)) then ((m_ref08_Pages l2 k).bind fun y1 => ((m_ref09_open l2 (Prod.fst y1) (Prod.snd y1) Bool.false w2).bind fun y2 => (bif (y2) then ((m_ref08_Turn l2 k 0 w2).bind fun y3 => some (.inl ((IntKind.wrap IntKind.i64 (k + 1)), (Prod.snd y3)))) else some (.inl ((IntKind.wrap IntKind.i64 (k + 1)), (w2)))))) else ((m_ref08_Count l2 w2).bind fun y4 => some (.inr (((IntKind.wrap IntKind.i64 (was - y4)), (w2)))))))

noncomputable def lp_ref09_Trim_L1 (l2 : T_assartref02_Layout) (was : Int) (s : Int × (List Int)) : Option (Int × (List Int)) :=
  loopO (fun s => sb_ref09_Trim_L1 l2 was s.1 s.2) s

noncomputable def m_ref09_Trim (l2 : T_assartref02_Layout) (w : List Int) : Option (Int × (List Int)) :=
  ((m_ref08_Count l2 w).bind fun y0 => (lp_ref09_Trim_L1 l2 (y0) ((0), (w))))

attribute [local irreducible] Loop ex exF contK roundK retK at_ bodyOf mkEnv
theorem ok_ref09_Kind : SpecOK Try.prog elTT 105 (sp_ref09_Kind m_ref09_Kind) := by
  refine spec_of_exF (cfg := (cfg_ref09_Kind m_ref02_Layout_Kind)) (cfg_ok rfl rfl rfl) (sig_cons ok_ref02_Layout_Kind sig_nil) (fn := Try.f105) (by kernel_rfl) (by kernel_rfl) (by kernel_rfl) ?_
  intro args H K h
  change tr_ref09_Kind m_ref09_Kind args H K at h
  unfold tr_ref09_Kind at h
  replace h := aC_el h
  obtain ⟨a0, _, rfl, h⟩ := h
  replace h := aC_el h
  obtain ⟨a1, _, rfl, h⟩ := h
  replace h := aC_el h
  obtain ⟨a2, _, rfl, h⟩ := h
  replace h := aN_el h
  obtain ⟨rfl, h⟩ := h
  replace h := aAgg_el h
  obtain ⟨c0, rfl, h⟩ := h
  replace h := d_assartref02_Layout_el h
  obtain ⟨l2, rfl, h⟩ := h
  replace h := aRow_el h
  obtain ⟨rfl, h⟩ := h
  replace h := aInt_el h
  obtain ⟨p, rfl, h⟩ := h
  replace h := aC_el h
  obtain ⟨b0, _, rfl, h⟩ := h
  replace h := aN_el h
  obtain ⟨rfl, h⟩ := h
  replace h := bRow_el h
  obtain ⟨(w : List Int), rfl, h⟩ := h
  refine Eq.mpr (nf_ref09_Kind m_ref02_Layout_Kind l2 p w K) ?_
  unfold m_ref09_Kind at h
  revert h
  exact br_So (fun h => h) (br_So (fun h => h) (bind_So fun y0 => req_So (req_So (fun h => h))))

theorem lpok_ref09_Used_L1 (l2 : T_assartref02_Layout) (w : List Int) (n : Int) (p : Int) (K : V → Heap → Prop) : So (lp_ref09_Used_L1 (l2) (w) (n, p)) (fun (x : Int) => K (vi (x)) [.row 0 w true]) → Loop (cfg_ref09_Used m_ref09_Kind) (⟨22, 1⟩ : Cx) (at_ (bodyOf Try.f107) [1, 1, 0, 1, 0, 0]) (mkEnv [(1, .row 0), (2, .ptr 1 0), (5, vi (n)), (6, vi (p))]) [.row 0 (w : List (Int)) Bool.true, .cells 30 (e_api_Config (T_assartref02_Layout.C l2))] (contK (cfg_ref09_Used m_ref09_Kind) (⟨22, 1⟩ : Cx) (bodyOf Try.f107) [1, 1, 0, 1, 0] (retK (cfg_ref09_Used m_ref09_Kind) Try.f107 1 K)) := by
  refine loopK_So (fun (s_ : Int × Int) => (mkEnv [(1, .row 0), (2, .ptr 1 0), (5, vi ((s_.1))), (6, vi ((s_.2)))])) (fun (s_ : Int × Int) => [.row 0 (w : List (Int)) Bool.true, .cells 30 (e_api_Config (T_assartref02_Layout.C l2))]) (fun (x : Int) => K (vi (x)) [.row 0 w true]) ?_ (n, p)
  intro s_ J1 h
  clear n
  clear p
  obtain ⟨n, p⟩ := s_
  refine Eq.mpr (nf_ref09_Used_L1 m_ref09_Kind l2 w n p K J1) ?_
  have h : So (sb_ref09_Used_L1 (l2) (w) n p) _ := h
  unfold sb_ref09_Used_L1 at h
  revert h
  exact br_So (bind_So fun y0 => br_So (fun h => h) (fun h => h)) (fun h => h)

theorem ok_ref09_Used : SpecOK Try.prog elTT 107 (sp_ref09_Used m_ref09_Used) := by
  refine spec_of_exF (cfg := (cfg_ref09_Used m_ref09_Kind)) (cfg_ok rfl rfl rfl) (sig_cons ok_ref09_Kind sig_nil) (fn := Try.f107) (by kernel_rfl) (by kernel_rfl) (by kernel_rfl) ?_
  intro args H K h
  change tr_ref09_Used m_ref09_Used args H K at h
  unfold tr_ref09_Used at h
  replace h := aC_el h
  obtain ⟨a0, _, rfl, h⟩ := h
  replace h := aC_el h
  obtain ⟨a1, _, rfl, h⟩ := h
  replace h := aN_el h
  obtain ⟨rfl, h⟩ := h
  replace h := aAgg_el h
  obtain ⟨c0, rfl, h⟩ := h
  replace h := d_assartref02_Layout_el h
  obtain ⟨l2, rfl, h⟩ := h
  replace h := aRow_el h
  obtain ⟨rfl, h⟩ := h
  replace h := aC_el h
  obtain ⟨b0, _, rfl, h⟩ := h
  replace h := aN_el h
  obtain ⟨rfl, h⟩ := h
  replace h := bRow_el h
  obtain ⟨(w : List Int), rfl, h⟩ := h
  refine Eq.mpr (nf_ref09_Used m_ref09_Kind l2 w K) ?_
  unfold m_ref09_Used at h
  revert h
  exact lpok_ref09_Used_L1 l2 w (0) (0) K

theorem lpok_ref09_First_L1 (l2 : T_assartref02_Layout) (p : Int) (w : List Int) (p2 : Int) (K : V → Heap → Prop) : So (lp_ref09_First_L1 (l2) (w) p2) (fun (x : Int) => K (vi (x)) [.row 0 w true]) → Loop (cfg_ref09_First m_ref09_Kind) (⟨24, 1⟩ : Cx) (at_ (bodyOf Try.f106) [1, 1, 0, 0, 0]) (mkEnv [(1, .row 0), (2, vi (p2)), (3, .ptr 1 0)]) [.row 0 (w : List (Int)) Bool.true, .cells 30 (e_api_Config (T_assartref02_Layout.C l2))] (contK (cfg_ref09_First m_ref09_Kind) (⟨24, 1⟩ : Cx) (bodyOf Try.f106) [1, 1, 0, 0] (retK (cfg_ref09_First m_ref09_Kind) Try.f106 1 K)) := by
  refine loopK_So (fun (s_ : Int) => (mkEnv [(1, .row 0), (2, vi ((s_))), (3, .ptr 1 0)])) (fun (s_ : Int) => [.row 0 (w : List (Int)) Bool.true, .cells 30 (e_api_Config (T_assartref02_Layout.C l2))]) (fun (x : Int) => K (vi (x)) [.row 0 w true]) ?_ p2
  intro s_ J1 h
  clear p2
  revert h; revert s_; intro p2 h
  refine Eq.mpr (nf_ref09_First_L1 m_ref09_Kind l2 p w p2 K J1) ?_
  have h : So (sb_ref09_First_L1 (l2) (w) p2) _ := h
  unfold sb_ref09_First_L1 at h
  revert h
  exact br_So (bind_So fun y0 => br_So (fun h => h) (fun h => h)) (fun h => h)

theorem ok_ref09_First : SpecOK Try.prog elTT 106 (sp_ref09_First m_ref09_First) := by
  refine spec_of_exF (cfg := (cfg_ref09_First m_ref09_Kind)) (cfg_ok rfl rfl rfl) (sig_cons ok_ref09_Kind sig_nil) (fn := Try.f106) (by kernel_rfl) (by kernel_rfl) (by kernel_rfl) ?_
  intro args H K h
  change tr_ref09_First m_ref09_First args H K at h
  unfold tr_ref09_First at h
  replace h := aC_el h
  obtain ⟨a0, _, rfl, h⟩ := h
  replace h := aC_el h
  obtain ⟨a1, _, rfl, h⟩ := h
  replace h := aC_el h
  obtain ⟨a2, _, rfl, h⟩ := h
  replace h := aN_el h
  obtain ⟨rfl, h⟩ := h
  replace h := aAgg_el h
  obtain ⟨c0, rfl, h⟩ := h
  replace h := d_assartref02_Layout_el h
  obtain ⟨l2, rfl, h⟩ := h
  replace h := aRow_el h
  obtain ⟨rfl, h⟩ := h
  replace h := aInt_el h
  obtain ⟨p, rfl, h⟩ := h
  replace h := aC_el h
  obtain ⟨b0, _, rfl, h⟩ := h
  replace h := aN_el h
  obtain ⟨rfl, h⟩ := h
  replace h := bRow_el h
  obtain ⟨(w : List Int), rfl, h⟩ := h
  refine Eq.mpr (nf_ref09_First m_ref09_Kind l2 p w K) ?_
  unfold m_ref09_First at h
  revert h
  exact bind_So fun y0 => br_So (fun h => h) (lpok_ref09_First_L1 l2 p w (p) K)

theorem lpok_ref09_open_L1 (l2 : T_assartref02_Layout) (p : Int) (n : Int) (mapped : Bool) (w : List Int) (iv : Int) (K : V → Heap → Prop) : So (lp_ref09_open_L1 (l2) (p) (n) (mapped) (w) iv) (fun (x : Bool) => K (vb (x)) [.row 0 w true]) → Loop (cfg_ref09_open m_ref09_Kind m_ref08_Of m_ref08_Mapped) (⟨58, 1⟩ : Cx) (at_ (bodyOf Try.f141) [1, 1, 0, 1, 0, 0]) (mkEnv [(1, .row 0), (2, vi (p)), (3, vi (n)), (4, vb (mapped)), (5, .ptr 1 0), (11, vi (iv))]) [.row 0 (w : List (Int)) Bool.true, .cells 30 (e_api_Config (T_assartref02_Layout.C l2))] (contK (cfg_ref09_open m_ref09_Kind m_ref08_Of m_ref08_Mapped) (⟨58, 1⟩ : Cx) (bodyOf Try.f141) [1, 1, 0, 1, 0] (retK (cfg_ref09_open m_ref09_Kind m_ref08_Of m_ref08_Mapped) Try.f141 1 K)) := by
  refine loopK_So (fun (s_ : Int) => (mkEnv [(1, .row 0), (2, vi (p)), (3, vi (n)), (4, vb (mapped)), (5, .ptr 1 0), (11, vi ((s_)))])) (fun (s_ : Int) => [.row 0 (w : List (Int)) Bool.true, .cells 30 (e_api_Config (T_assartref02_Layout.C l2))]) (fun (x : Bool) => K (vb (x)) [.row 0 w true]) ?_ iv
  intro s_ J1 h
  clear iv
  revert h; revert s_; intro iv h
  refine Eq.mpr (nf_ref09_open_L1 m_ref09_Kind m_ref08_Of m_ref08_Mapped l2 p n mapped w iv K J1) ?_
  have h : So (sb_ref09_open_L1 (l2) (p) (n) (mapped) (w) iv) _ := h
  unfold sb_ref09_open_L1 at h
  revert h
  exact br_So (bind_So fun y0 => br_So (fun h => h) (br_So (bind_So fun y1 => bind_So fun y2 => br_So (fun h => h) (fun h => h)) (fun h => h))) (fun h => h)

theorem ok_ref09_open : SpecOK Try.prog elTT 141 (sp_ref09_open m_ref09_open) := by
  refine spec_of_exF (cfg := (cfg_ref09_open m_ref09_Kind m_ref08_Of m_ref08_Mapped)) (cfg_ok rfl rfl rfl) (sig_cons ok_ref09_Kind (sig_cons ok_ref08_Of (sig_cons ok_ref08_Mapped sig_nil))) (fn := Try.f141) (by kernel_rfl) (by kernel_rfl) (by kernel_rfl) ?_
  intro args H K h
  change tr_ref09_open m_ref09_open args H K at h
  unfold tr_ref09_open at h
  replace h := aC_el h
  obtain ⟨a0, _, rfl, h⟩ := h
  replace h := aC_el h
  obtain ⟨a1, _, rfl, h⟩ := h
  replace h := aC_el h
  obtain ⟨a2, _, rfl, h⟩ := h
  replace h := aC_el h
  obtain ⟨a3, _, rfl, h⟩ := h
  replace h := aC_el h
  obtain ⟨a4, _, rfl, h⟩ := h
  replace h := aN_el h
  obtain ⟨rfl, h⟩ := h
  replace h := aAgg_el h
  obtain ⟨c0, rfl, h⟩ := h
  replace h := d_assartref02_Layout_el h
  obtain ⟨l2, rfl, h⟩ := h
  replace h := aRow_el h
  obtain ⟨rfl, h⟩ := h
  replace h := aInt_el h
  obtain ⟨p, rfl, h⟩ := h
  replace h := aInt_el h
  obtain ⟨n, rfl, h⟩ := h
  replace h := aBool_el h
  obtain ⟨mapped, rfl, h⟩ := h
  replace h := aC_el h
  obtain ⟨b0, _, rfl, h⟩ := h
  replace h := aN_el h
  obtain ⟨rfl, h⟩ := h
  replace h := bRow_el h
  obtain ⟨(w : List Int), rfl, h⟩ := h
  refine Eq.mpr (nf_ref09_open m_ref09_Kind m_ref08_Of m_ref08_Mapped l2 p n mapped w K) ?_
  unfold m_ref09_open at h
  revert h
  exact br_So (fun h => h) (br_So (fun h => h) (br_So (fun h => h) (br_So (fun h => h) (lpok_ref09_open_L1 l2 p n mapped w (p) K))))

theorem lpok_ref09_Find_L2 (l2 : T_assartref02_Layout) (n : Int) (step : Int) (w : List Int) (p : Int) (K : V → Heap → Prop) : So (lp_ref09_Find_L2 (l2) (n) (step) (w) p) (fun (x : Int) => K (vi (x)) [.row 0 w true]) → Loop (cfg_ref09_Find m_ref09_open) (⟨55, 1⟩ : Cx) (at_ (bodyOf Try.f101) [1, 1, 1, 0, 1, 0, 0]) (mkEnv [(1, .row 0), (2, vi (n)), (3, vi (step)), (4, .ptr 1 0), (10, vi (p))]) [.row 0 (w : List (Int)) Bool.true, .cells 30 (e_api_Config (T_assartref02_Layout.C l2))] (contK (cfg_ref09_Find m_ref09_open) (⟨55, 1⟩ : Cx) (bodyOf Try.f101) [1, 1, 1, 0, 1, 0] (retK (cfg_ref09_Find m_ref09_open) Try.f101 1 K)) := by
  refine loopK_So (fun (s_ : Int) => (mkEnv [(1, .row 0), (2, vi (n)), (3, vi (step)), (4, .ptr 1 0), (10, vi ((s_)))])) (fun (s_ : Int) => [.row 0 (w : List (Int)) Bool.true, .cells 30 (e_api_Config (T_assartref02_Layout.C l2))]) (fun (x : Int) => K (vi (x)) [.row 0 w true]) ?_ p
  intro s_ J1 h
  clear p
  revert h; revert s_; intro p h
  refine Eq.mpr (nf_ref09_Find_L2 m_ref09_open l2 n step w p K J1) ?_
  have h : So (sb_ref09_Find_L2 (l2) (n) (step) (w) p) _ := h
  unfold sb_ref09_Find_L2 at h
  revert h
  exact br_So (req_So (br_So (bind_So fun y0 => br_So (fun h => h) (fun h => h)) (fun h => h))) (fun h => h)

theorem lpok_ref09_Find_L1 (l2 : T_assartref02_Layout) (n : Int) (step : Int) (w : List Int) (p : Int) (K : V → Heap → Prop) : So (lp_ref09_Find_L1 (l2) (n) (step) (w) p) (fun (x : Int) => K (vi (x)) [.row 0 w true]) → Loop (cfg_ref09_Find m_ref09_open) (⟨55, 1⟩ : Cx) (at_ (bodyOf Try.f101) [1, 1, 0, 1, 0, 0]) (mkEnv [(1, .row 0), (2, vi (n)), (3, vi (step)), (4, .ptr 1 0), (9, vi (p))]) [.row 0 (w : List (Int)) Bool.true, .cells 30 (e_api_Config (T_assartref02_Layout.C l2))] (contK (cfg_ref09_Find m_ref09_open) (⟨55, 1⟩ : Cx) (bodyOf Try.f101) [1, 1, 0, 1, 0] (retK (cfg_ref09_Find m_ref09_open) Try.f101 1 K)) := by
  refine loopK_So (fun (s_ : Int) => (mkEnv [(1, .row 0), (2, vi (n)), (3, vi (step)), (4, .ptr 1 0), (9, vi ((s_)))])) (fun (s_ : Int) => [.row 0 (w : List (Int)) Bool.true, .cells 30 (e_api_Config (T_assartref02_Layout.C l2))]) (fun (x : Int) => K (vi (x)) [.row 0 w true]) ?_ p
  intro s_ J1 h
  clear p
  revert h; revert s_; intro p h
  refine Eq.mpr (nf_ref09_Find_L1 m_ref09_open l2 n step w p K J1) ?_
  have h : So (sb_ref09_Find_L1 (l2) (n) (step) (w) p) _ := h
  unfold sb_ref09_Find_L1 at h
  revert h
  exact br_So (req_So (br_So (bind_So fun y0 => br_So (fun h => h) (fun h => h)) (fun h => h))) (mapK_So (lpok_ref09_Find_L2 l2 n step w (0) K))

theorem ok_ref09_Find : SpecOK Try.prog elTT 101 (sp_ref09_Find m_ref09_Find) := by
  refine spec_of_exF (cfg := (cfg_ref09_Find m_ref09_open)) (cfg_ok rfl rfl rfl) (sig_cons ok_ref09_open sig_nil) (fn := Try.f101) (by kernel_rfl) (by kernel_rfl) (by kernel_rfl) ?_
  intro args H K h
  change tr_ref09_Find m_ref09_Find args H K at h
  unfold tr_ref09_Find at h
  replace h := aC_el h
  obtain ⟨a0, _, rfl, h⟩ := h
  replace h := aC_el h
  obtain ⟨a1, _, rfl, h⟩ := h
  replace h := aC_el h
  obtain ⟨a2, _, rfl, h⟩ := h
  replace h := aC_el h
  obtain ⟨a3, _, rfl, h⟩ := h
  replace h := aN_el h
  obtain ⟨rfl, h⟩ := h
  replace h := aAgg_el h
  obtain ⟨c0, rfl, h⟩ := h
  replace h := d_assartref02_Layout_el h
  obtain ⟨l2, rfl, h⟩ := h
  replace h := aRow_el h
  obtain ⟨rfl, h⟩ := h
  replace h := aInt_el h
  obtain ⟨n, rfl, h⟩ := h
  replace h := aInt_el h
  obtain ⟨step, rfl, h⟩ := h
  replace h := aC_el h
  obtain ⟨b0, _, rfl, h⟩ := h
  replace h := aN_el h
  obtain ⟨rfl, h⟩ := h
  replace h := bRow_el h
  obtain ⟨(w : List Int), rfl, h⟩ := h
  refine Eq.mpr (nf_ref09_Find m_ref09_open l2 n step w K) ?_
  unfold m_ref09_Find at h
  revert h
  exact br_So (fun h => h) (br_So (fun h => h) (lpok_ref09_Find_L1 l2 n step w (0) K))

theorem ok_ref09_set : SpecOK Try.prog elTT 142 (sp_ref09_set m_ref09_set) := by
  refine spec_of_exF (cfg := (cfg_ref09_set m_ref02_Layout_Kind m_ref02_Layout_Count m_ref02_Layout_Bits)) (cfg_ok rfl rfl rfl) (sig_cons ok_ref02_Layout_Kind (sig_cons ok_ref02_Layout_Count (sig_cons ok_ref02_Layout_Bits sig_nil))) (fn := Try.f142) (by kernel_rfl) (by kernel_rfl) (by kernel_rfl) ?_
  intro args H K h
  change tr_ref09_set m_ref09_set args H K at h
  unfold tr_ref09_set at h
  replace h := aC_el h
  obtain ⟨a0, _, rfl, h⟩ := h
  replace h := aC_el h
  obtain ⟨a1, _, rfl, h⟩ := h
  replace h := aC_el h
  obtain ⟨a2, _, rfl, h⟩ := h
  replace h := aC_el h
  obtain ⟨a3, _, rfl, h⟩ := h
  replace h := aC_el h
  obtain ⟨a4, _, rfl, h⟩ := h
  replace h := aN_el h
  obtain ⟨rfl, h⟩ := h
  replace h := aAgg_el h
  obtain ⟨c0, rfl, h⟩ := h
  replace h := d_assartref02_Layout_el h
  obtain ⟨l2, rfl, h⟩ := h
  replace h := aRow_el h
  obtain ⟨rfl, h⟩ := h
  replace h := aInt_el h
  obtain ⟨p, rfl, h⟩ := h
  replace h := aInt_el h
  obtain ⟨kindv, rfl, h⟩ := h
  replace h := aInt_el h
  obtain ⟨count, rfl, h⟩ := h
  replace h := aC_el h
  obtain ⟨b0, _, rfl, h⟩ := h
  replace h := aN_el h
  obtain ⟨rfl, h⟩ := h
  replace h := bRow_el h
  obtain ⟨(w : List Int), rfl, h⟩ := h
  refine Eq.mpr (nf_ref09_set m_ref02_Layout_Kind m_ref02_Layout_Count m_ref02_Layout_Bits l2 p kindv count w K) ?_
  unfold m_ref09_set at h
  revert h
  exact bind_So fun y0 => req_So (req_So (bind_So fun y1 => req_So (req_So (bind_So fun y2 => req_So (req_So (fun h => h))))))

theorem lpok_ref09_Take_L1 (l2 : T_assartref02_Layout) (p : Int) (n : Int) (kindv : Int) (w : List Int) (iv : Int) (w2 : List Int) (K : V → Heap → Prop) : So (lp_ref09_Take_L1 (l2) (p) (n) (kindv) (iv, w2)) (fun (x : Bool × (List Int)) => K (vb (x.1)) [.row 0 (x.2) false]) → Loop (cfg_ref09_Take m_ref09_open m_ref08_Ensure m_ref09_set) (⟨64, 1⟩ : Cx) (at_ (bodyOf Try.f102) [1, 1, 1, 0, 1, 0, 0]) (mkEnv [(1, .row 0), (2, vi (p)), (3, vi (n)), (4, vi (kindv)), (5, .ptr 1 0), (11, vi (iv))]) [.row 0 (w2 : List (Int)) Bool.false, .cells 30 (e_api_Config (T_assartref02_Layout.C l2))] (contK (cfg_ref09_Take m_ref09_open m_ref08_Ensure m_ref09_set) (⟨64, 1⟩ : Cx) (bodyOf Try.f102) [1, 1, 1, 0, 1, 0] (retK (cfg_ref09_Take m_ref09_open m_ref08_Ensure m_ref09_set) Try.f102 1 K)) := by
  refine loopK_So (fun (s_ : Int × (List Int)) => (mkEnv [(1, .row 0), (2, vi (p)), (3, vi (n)), (4, vi (kindv)), (5, .ptr 1 0), (11, vi ((s_.1)))])) (fun (s_ : Int × (List Int)) => [.row 0 ((s_.2) : List (Int)) Bool.false, .cells 30 (e_api_Config (T_assartref02_Layout.C l2))]) (fun (x : Bool × (List Int)) => K (vb (x.1)) [.row 0 (x.2) false]) ?_ (iv, w2)
  intro s_ J1 h
  clear iv
  clear w2
  obtain ⟨iv, w2⟩ := s_
  refine Eq.mpr (nf_ref09_Take_L1 m_ref09_open m_ref08_Ensure m_ref09_set l2 p n kindv w iv w2 K J1) ?_
  have h : So (sb_ref09_Take_L1 (l2) (p) (n) (kindv) iv w2) _ := h
  unfold sb_ref09_Take_L1 at h
  revert h
  exact br_So (bind_So fun y0 => fun h => h) (br_So (bind_So fun y1 => fun h => h) (bind_So fun y2 => fun h => h))

theorem ok_ref09_Take : SpecOK Try.prog elTT 102 (sp_ref09_Take m_ref09_Take) := by
  refine spec_of_exF (cfg := (cfg_ref09_Take m_ref09_open m_ref08_Ensure m_ref09_set)) (cfg_ok rfl rfl rfl) (sig_cons ok_ref09_open (sig_cons ok_ref08_Ensure (sig_cons ok_ref09_set sig_nil))) (fn := Try.f102) (by kernel_rfl) (by kernel_rfl) (by kernel_rfl) ?_
  intro args H K h
  change tr_ref09_Take m_ref09_Take args H K at h
  unfold tr_ref09_Take at h
  replace h := aC_el h
  obtain ⟨a0, _, rfl, h⟩ := h
  replace h := aC_el h
  obtain ⟨a1, _, rfl, h⟩ := h
  replace h := aC_el h
  obtain ⟨a2, _, rfl, h⟩ := h
  replace h := aC_el h
  obtain ⟨a3, _, rfl, h⟩ := h
  replace h := aC_el h
  obtain ⟨a4, _, rfl, h⟩ := h
  replace h := aN_el h
  obtain ⟨rfl, h⟩ := h
  replace h := aAgg_el h
  obtain ⟨c0, rfl, h⟩ := h
  replace h := d_assartref02_Layout_el h
  obtain ⟨l2, rfl, h⟩ := h
  replace h := aRow_el h
  obtain ⟨rfl, h⟩ := h
  replace h := aInt_el h
  obtain ⟨p, rfl, h⟩ := h
  replace h := aInt_el h
  obtain ⟨n, rfl, h⟩ := h
  replace h := aInt_el h
  obtain ⟨kindv, rfl, h⟩ := h
  replace h := aC_el h
  obtain ⟨b0, _, rfl, h⟩ := h
  replace h := aN_el h
  obtain ⟨rfl, h⟩ := h
  replace h := bRow_el h
  obtain ⟨(w : List Int), rfl, h⟩ := h
  refine Eq.mpr (nf_ref09_Take m_ref09_open m_ref08_Ensure m_ref09_set l2 p n kindv w K) ?_
  unfold m_ref09_Take at h
  revert h
  exact bind_So fun y0 => br_So (fun h => h) (br_So (fun h => h) (br_So (fun h => h) (br_So (br_So (fun h => h) (bind_So fun y1 => lpok_ref09_Take_L1 l2 p n kindv w (p) (Prod.snd y1) K)) (bind_So fun y2 => lpok_ref09_Take_L1 l2 p n kindv w (p) (Prod.snd y2) K))))

theorem lpok_ref09_Drop_L1 (l2 : T_assartref02_Layout) (p : Int) (w : List Int) (k : Int) (n : Int) (w2 : List Int) (K : V → Heap → Prop) : So (lp_ref09_Drop_L1 (l2) (p) (k) (n, w2)) (fun (x : Int × (List Int)) => K (vi (x.1)) [.row 0 (x.2) false]) → Loop (cfg_ref09_Drop m_ref09_Kind m_ref09_set) (⟨43, 1⟩ : Cx) (at_ (bodyOf Try.f103) [1, 1, 1, 1, 1, 0, 0, 0]) (mkEnv [(1, .row 0), (2, vi (p)), (3, .ptr 1 0), (7, vi (k)), (8, vi (n))]) [.row 0 (w2 : List (Int)) Bool.false, .cells 30 (e_api_Config (T_assartref02_Layout.C l2))] (contK (cfg_ref09_Drop m_ref09_Kind m_ref09_set) (⟨43, 1⟩ : Cx) (bodyOf Try.f103) [1, 1, 1, 1, 1, 0, 0] (retK (cfg_ref09_Drop m_ref09_Kind m_ref09_set) Try.f103 1 K)) := by
  refine loopK_So (fun (s_ : Int × (List Int)) => (mkEnv [(1, .row 0), (2, vi (p)), (3, .ptr 1 0), (7, vi (k)), (8, vi ((s_.1)))])) (fun (s_ : Int × (List Int)) => [.row 0 ((s_.2) : List (Int)) Bool.false, .cells 30 (e_api_Config (T_assartref02_Layout.C l2))]) (fun (x : Int × (List Int)) => K (vi (x.1)) [.row 0 (x.2) false]) ?_ (n, w2)
  intro s_ J1 h
  clear n
  clear w2
  obtain ⟨n, w2⟩ := s_
  refine Eq.mpr (nf_ref09_Drop_L1 m_ref09_Kind m_ref09_set l2 p w k n w2 K J1) ?_
  have h : So (sb_ref09_Drop_L1 (l2) (p) (k) n w2) _ := h
  unfold sb_ref09_Drop_L1 at h
  revert h
  exact br_So (bind_So fun y0 => br_So (bind_So fun y1 => fun h => h) (fun h => h)) (fun h => h)

theorem ok_ref09_Drop : SpecOK Try.prog elTT 103 (sp_ref09_Drop m_ref09_Drop) := by
  refine spec_of_exF (cfg := (cfg_ref09_Drop m_ref09_Kind m_ref09_set)) (cfg_ok rfl rfl rfl) (sig_cons ok_ref09_Kind (sig_cons ok_ref09_set sig_nil)) (fn := Try.f103) (by kernel_rfl) (by kernel_rfl) (by kernel_rfl) ?_
  intro args H K h
  change tr_ref09_Drop m_ref09_Drop args H K at h
  unfold tr_ref09_Drop at h
  replace h := aC_el h
  obtain ⟨a0, _, rfl, h⟩ := h
  replace h := aC_el h
  obtain ⟨a1, _, rfl, h⟩ := h
  replace h := aC_el h
  obtain ⟨a2, _, rfl, h⟩ := h
  replace h := aN_el h
  obtain ⟨rfl, h⟩ := h
  replace h := aAgg_el h
  obtain ⟨c0, rfl, h⟩ := h
  replace h := d_assartref02_Layout_el h
  obtain ⟨l2, rfl, h⟩ := h
  replace h := aRow_el h
  obtain ⟨rfl, h⟩ := h
  replace h := aInt_el h
  obtain ⟨p, rfl, h⟩ := h
  replace h := aC_el h
  obtain ⟨b0, _, rfl, h⟩ := h
  replace h := aN_el h
  obtain ⟨rfl, h⟩ := h
  replace h := bRow_el h
  obtain ⟨(w : List Int), rfl, h⟩ := h
  refine Eq.mpr (nf_ref09_Drop m_ref09_Kind m_ref09_set l2 p w K) ?_
  unfold m_ref09_Drop at h
  revert h
  exact bind_So fun y0 => br_So (fun h => h) (br_So (fun h => h) (bind_So fun y1 => lpok_ref09_Drop_L1 l2 p w (y0) (1) (y1) K))

theorem lpok_ref09_Trim_L1 (l2 : T_assartref02_Layout) (w : List Int) (was : Int) (k : Int) (w2 : List Int) (K : V → Heap → Prop) : So (lp_ref09_Trim_L1 (l2) (was) (k, w2)) (fun (x : Int × (List Int)) => K (vi (x.1)) [.row 0 (x.2) false]) → Loop (cfg_ref09_Trim m_ref08_Count m_ref02_Layout_Chunks m_ref08_Pages m_ref09_open m_ref08_Turn) (⟨38, 1⟩ : Cx) (at_ (bodyOf Try.f104) [1, 1, 0, 1, 0, 0]) (mkEnv [(1, .row 0), (2, .ptr 1 0), (5, vi (was)), (6, vi (k))]) [.row 0 (w2 : List (Int)) Bool.false, .cells 30 (e_api_Config (T_assartref02_Layout.C l2))] (contK (cfg_ref09_Trim m_ref08_Count m_ref02_Layout_Chunks m_ref08_Pages m_ref09_open m_ref08_Turn) (⟨38, 1⟩ : Cx) (bodyOf Try.f104) [1, 1, 0, 1, 0] (retK (cfg_ref09_Trim m_ref08_Count m_ref02_Layout_Chunks m_ref08_Pages m_ref09_open m_ref08_Turn) Try.f104 1 K)) := by
  refine loopK_So (fun (s_ : Int × (List Int)) => (mkEnv [(1, .row 0), (2, .ptr 1 0), (5, vi (was)), (6, vi ((s_.1)))])) (fun (s_ : Int × (List Int)) => [.row 0 ((s_.2) : List (Int)) Bool.false, .cells 30 (e_api_Config (T_assartref02_Layout.C l2))]) (fun (x : Int × (List Int)) => K (vi (x.1)) [.row 0 (x.2) false]) ?_ (k, w2)
  intro s_ J1 h
  clear k
  clear w2
  obtain ⟨k, w2⟩ := s_
  refine Eq.mpr (nf_ref09_Trim_L1 m_ref08_Count m_ref02_Layout_Chunks m_ref08_Pages m_ref09_open m_ref08_Turn l2 w was k w2 K J1) ?_
  have h : So (sb_ref09_Trim_L1 (l2) (was) k w2) _ := h
  unfold sb_ref09_Trim_L1 at h
  revert h
  exact bind_So fun y0 => br_So (bind_So fun y1 => bind_So fun y2 => br_So (bind_So fun y3 => fun h => h) (fun h => h)) (bind_So fun y4 => fun h => h)

theorem ok_ref09_Trim : SpecOK Try.prog elTT 104 (sp_ref09_Trim m_ref09_Trim) := by
  refine spec_of_exF (cfg := (cfg_ref09_Trim m_ref08_Count m_ref02_Layout_Chunks m_ref08_Pages m_ref09_open m_ref08_Turn)) (cfg_ok rfl rfl rfl) (sig_cons ok_ref08_Count (sig_cons ok_ref02_Layout_Chunks (sig_cons ok_ref08_Pages (sig_cons ok_ref09_open (sig_cons ok_ref08_Turn sig_nil))))) (fn := Try.f104) (by kernel_rfl) (by kernel_rfl) (by kernel_rfl) ?_
  intro args H K h
  change tr_ref09_Trim m_ref09_Trim args H K at h
  unfold tr_ref09_Trim at h
  replace h := aC_el h
  obtain ⟨a0, _, rfl, h⟩ := h
  replace h := aC_el h
  obtain ⟨a1, _, rfl, h⟩ := h
  replace h := aN_el h
  obtain ⟨rfl, h⟩ := h
  replace h := aAgg_el h
  obtain ⟨c0, rfl, h⟩ := h
  replace h := d_assartref02_Layout_el h
  obtain ⟨l2, rfl, h⟩ := h
  replace h := aRow_el h
  obtain ⟨rfl, h⟩ := h
  replace h := aC_el h
  obtain ⟨b0, _, rfl, h⟩ := h
  replace h := aN_el h
  obtain ⟨rfl, h⟩ := h
  replace h := bRow_el h
  obtain ⟨(w : List Int), rfl, h⟩ := h
  refine Eq.mpr (nf_ref09_Trim m_ref08_Count m_ref02_Layout_Chunks m_ref08_Pages m_ref09_open m_ref08_Turn l2 w K) ?_
  unfold m_ref09_Trim at h
  revert h
  exact bind_So fun y0 => lpok_ref09_Trim_L1 l2 w (y0) (0) (w) K

end Go.Rx
end

section
/- Runs of pages: the document's functions, plainly. -/
namespace Go.Rx
open Go.Proofs

theorem offs_id {a : Int} (h : 0 ≤ a) : offs a 0 = a := by
  have e : a = ((a.toNat : Nat) : Int) := by omega
  rw [e]; rfl

section
variable {c : T_api_Config} {w : List Int}
theorem r9Kind_eq (h : RightC c) (v : VOK (layC c) w.length w) (p : Int) : m_ref09_Kind ⟨c⟩ p w = some (knd (layC c).at_1 c.Pages w p) := by
  have g := v.lay.geoK; have ha := v.all; have hpg := h.pages
  have e0 : (layC c).c = c := rfl
  rw [e0] at g
  unfold m_ref09_Kind
  by_cases a : p < 0
  · rw [decide_eq_true a, cond_true, knd_out (by omega)]
  rw [decide_eq_false a, cond_false]
  by_cases b : p ≥ c.Pages
  · rw [decide_eq_true b, cond_true, knd_out (by omega)]
  rw [decide_eq_false b, cond_false, rKind_eq h, Option.bind_some]
  have e1 : lPg (layC c) (layC c).at_1 p = (layC c).at_1 + p := by unfold lPg; rw [e0, if_pos (by omega)]
  rw [e1, offs_id (by omega), inR_int (by omega) (by omega), cond_true, cond_true, knd_in (by omega)]; rfl
theorem r9Used_eq (h : RightC c) (v : VOK (layC c) w.length w) : m_ref09_Used ⟨c⟩ w = some (usedN (layC c).at_1 c.Pages w c.Pages.toNat) := by
  have hpg := h.pages
  obtain ⟨r, h1, rfl⟩ := loopO_ind (step := fun s : Int × Int => sb_ref09_Used_L1 ⟨c⟩ w s.1 s.2)
    (I := fun s => ∃ j : Nat, (j : Int) ≤ c.Pages ∧ s = (usedN (layC c).at_1 c.Pages w j, (j : Int))) (μ := fun s => (c.Pages - s.2).toNat) (fun r => r = usedN (layC c).at_1 c.Pages w c.Pages.toNat) (by
      rintro _ ⟨j, hj, rfl⟩
      simp only [sb_ref09_Used_L1]
      have hu := usedN_le (layC c).at_1 c.Pages w j
      by_cases cc : (j : Int) < c.Pages
      · rw [decide_eq_true cc, cond_true, r9Kind_eq h v, Option.bind_some, wrap_succ (by omega), wrap_id (by omega) (by omega)]
        refine .inl ⟨(usedN (layC c).at_1 c.Pages w (j + 1), ((j + 1 : Nat) : Int)), ?_, ⟨j + 1, by omega, rfl⟩, by simp only; omega⟩
        simp only [usedN]
        by_cases z : knd (layC c).at_1 c.Pages w j = 0
        · rw [if_pos z, z, Int.add_zero]; rfl
        · have e : (knd (layC c).at_1 c.Pages w j != 0) = true := by simpa using z
          rw [if_neg z, e]; rfl
      · have e : j = c.Pages.toNat := by omega
        rw [decide_eq_false cc, cond_false]
        exact .inr ⟨_, rfl, by rw [e]⟩) (0, 0) ⟨0, by omega, rfl⟩
  exact h1
theorem r9First_eq (h : RightC c) (v : VOK (layC c) w.length w) (p : Int) : ∃ r, m_ref09_First ⟨c⟩ p w = some r ∧ ((knd (layC c).at_1 c.Pages w p ≤ 0 ∧ r = -1) ∨ (0 < knd (layC c).at_1 c.Pages w p ∧ FirstR (layC c).at_1 c.Pages w p r)) := by
  have hpg := h.pages
  unfold m_ref09_First
  rw [r9Kind_eq h v, Option.bind_some]
  by_cases a : knd (layC c).at_1 c.Pages w p ≤ 0
  · rw [decide_eq_true a, cond_true]; exact ⟨_, rfl, .inl ⟨a, rfl⟩⟩
  rw [decide_eq_false a, cond_false]
  have hp : 0 ≤ p ∧ p < c.Pages := by
    by_cases h : 0 ≤ p ∧ p < c.Pages
    · exact h
    · rw [knd_out h] at a; omega
  obtain ⟨r, h1, h2⟩ := loopO_ind (step := fun s : Int => sb_ref09_First_L1 ⟨c⟩ w s) (I := fun r => 0 ≤ r ∧ r ≤ p ∧ ∀ j, r < j → j ≤ p → knd (layC c).at_1 c.Pages w j = 7) (μ := fun r => r.toNat) (fun r => FirstR (layC c).at_1 c.Pages w p r) (by
    rintro r ⟨r0, r1, r2⟩
    simp only [sb_ref09_First_L1]
    by_cases cc : r > 0
    · rw [decide_eq_true cc, cond_true, r9Kind_eq h v, Option.bind_some]
      by_cases d : knd (layC c).at_1 c.Pages w r = 7
      · have e : (knd (layC c).at_1 c.Pages w r == 7) = true := by rw [d]; rfl
        rw [e, cond_true, wrap_id (by omega) (by omega)]
        refine .inl ⟨_, rfl, ⟨by omega, by omega, fun j a b => ?_⟩, by omega⟩
        by_cases f : j = r
        · rw [f]; exact d
        · exact r2 j (by omega) b
      · have e : (knd (layC c).at_1 c.Pages w r == 7) = false := by simpa using d
        rw [e, cond_false]
        exact .inr ⟨_, rfl, ⟨r1, r2, .inr d, fun _ => r0⟩⟩
    · rw [decide_eq_false cc, cond_false]
      exact .inr ⟨_, rfl, ⟨r1, r2, .inl (by omega), fun _ => r0⟩⟩) p ⟨hp.1, by omega, fun j a b => by omega⟩
  exact ⟨r, h1, .inr ⟨by omega, h2⟩⟩

/-- Pages are free, and mapped, if that is asked. -/
def OpenR (kb pg tb : Int) (w : List Int) (m : Bool) (p n : Int) : Prop := FreeR kb pg w p n ∧ (m = true → ∀ j, p ≤ j → j < p + n → isB w pg tb (j / 4) 1 = true)
theorem r9open_eq (h : RightC c) (v : VOK (layC c) w.length w) (p n : Int) (m : Bool) : ∃ b, m_ref09_open ⟨c⟩ p n m w = some b ∧ (b = true ↔ OpenR (layC c).at_1 c.Pages (layC c).at_0 w m p n) := by
  have hpg := h.pages
  have no : ¬ (1 ≤ n ∧ 0 ≤ p ∧ p < c.Pages ∧ n ≤ c.Pages - p) → ((false = true) ↔ OpenR (layC c).at_1 c.Pages (layC c).at_0 w m p n) := fun hn => ⟨fun x => (by cases x), fun x => (hn x.1.span).elim⟩
  unfold m_ref09_open
  by_cases a : p < 0
  · rw [decide_eq_true a, cond_true]; exact ⟨_, rfl, no (by omega)⟩
  rw [decide_eq_false a, cond_false]
  by_cases b : p ≥ c.Pages
  · rw [decide_eq_true b, cond_true]; exact ⟨_, rfl, no (by omega)⟩
  rw [decide_eq_false b, cond_false]
  by_cases d : n < 1
  · rw [decide_eq_true d, cond_true]; exact ⟨_, rfl, no (by omega)⟩
  rw [decide_eq_false d, cond_false, wrap_id (x := c.Pages - p) (by omega) (by omega)]
  by_cases e : n > c.Pages - p
  · rw [decide_eq_true e, cond_true]; exact ⟨_, rfl, no (by omega)⟩
  rw [decide_eq_false e, cond_false]
  exact loopO_ind (step := fun s : Int => sb_ref09_open_L1 ⟨c⟩ p n m w s)
    (I := fun i => p ≤ i ∧ i ≤ p + n ∧ ∀ j, p ≤ j → j < i → wd w ((layC c).at_1 + j) = 0 ∧ (m = true → isB w c.Pages (layC c).at_0 (j / 4) 1 = true)) (μ := fun i => (p + n - i).toNat)
    (fun b => b = true ↔ OpenR (layC c).at_1 c.Pages (layC c).at_0 w m p n) (by
      rintro i ⟨i0, i1, i2⟩
      simp only [sb_ref09_open_L1]
      rw [wrap_id (x := p + n) (by omega) (by omega)]
      by_cases cc : i < p + n
      · rw [decide_eq_true cc, cond_true, r9Kind_eq h v, Option.bind_some, knd_in (by omega), wrap_id (x := i + 1) (by omega) (by omega)]
        by_cases z : wd w ((layC c).at_1 + i) = 0
        · have e1 : (wd w ((layC c).at_1 + i) != 0) = false := by rw [z]; rfl
          rw [e1, cond_false]
          have more : (m = true → isB w c.Pages (layC c).at_0 (i / 4) 1 = true) → p ≤ i + 1 ∧ i + 1 ≤ p + n ∧ ∀ j, p ≤ j → j < i + 1 → wd w ((layC c).at_1 + j) = 0 ∧ (m = true → isB w c.Pages (layC c).at_0 (j / 4) 1 = true) := fun hm =>
            ⟨by omega, by omega, fun j j0 j1 => by
              by_cases f : j = i
              · rw [f]; exact ⟨z, hm⟩
              · exact i2 j j0 (by omega)⟩
          cases m with
          | false => exact .inl ⟨_, rfl, more (fun x => by cases x), by omega⟩
          | true =>
            have hch : chunkI i = i / 4 := by unfold chunkI; rw [decide_eq_false (by omega)]; rfl
            rw [cond_true, rOf_eq (by omega), Option.bind_some, rMapped_eq h v, Option.bind_some, hch]
            cases hb : isB w c.Pages (layC c).at_0 (i / 4) 1 with
            | true => exact .inl ⟨_, rfl, more (fun _ => hb), by omega⟩
            | false =>
              refine .inr ⟨_, rfl, ⟨fun x => (by cases x), fun x => ?_⟩⟩
              have := x.2 rfl i i0 cc
              rw [hb] at this; cases this
        · have e1 : (wd w ((layC c).at_1 + i) != 0) = true := by simpa using z
          rw [e1, cond_true]
          refine .inr ⟨_, rfl, ⟨fun x => (by cases x), fun x => ?_⟩⟩
          have := x.1.free (i - p) (by omega) (by omega)
          rw [show p + (i - p) = i by omega] at this
          exact (z this).elim
      · rw [decide_eq_false cc, cond_false]
        refine .inr ⟨_, rfl, ⟨fun _ => ⟨⟨by omega, fun k k0 k1 => (i2 (p + k) (by omega) (by omega)).1⟩, fun hm j j0 j1 => (i2 j j0 (by omega)).2 hm⟩, fun _ => rfl⟩⟩) p ⟨by omega, by omega, fun j j0 j1 => by omega⟩

theorem open_does {n step p : Int} : (p % step = 0 ∧ OpenR (layC c).at_1 c.Pages (layC c).at_0 w true p n) ↔ Does c.Pages step n (fun j => knd (layC c).at_1 c.Pages w j = 0 ∧ mpd (layC c) w j) p := by
  constructor
  · rintro ⟨m, f, hm⟩
    have hs := f.span
    refine ⟨m, hs, fun j j0 j1 => ⟨?_, hm rfl j j0 j1⟩⟩
    have := f.free (j - p) (by omega) (by omega)
    rw [knd_in (by omega)]
    rw [show p + (j - p) = j by omega] at this; exact this
  · intro d
    have hs := d.span
    refine ⟨d.mul, ⟨hs, fun i i0 i1 => ?_⟩, fun _ j j0 j1 => (d.all j j0 j1).2⟩
    have := (d.all (p + i) (by omega) (by omega)).1
    rw [knd_in (by omega)] at this; exact this
theorem open_does0 {n step p : Int} : (p % step = 0 ∧ OpenR (layC c).at_1 c.Pages (layC c).at_0 w false p n) ↔ Does c.Pages step n (fun j => knd (layC c).at_1 c.Pages w j = 0) p := by
  rw [does_free]
  exact ⟨fun x => ⟨x.1, x.2.1⟩, fun x => ⟨x.1, x.2, fun h => by cases h⟩⟩

theorem r9Find_eq (h : RightC c) (v : VOK (layC c) w.length w) (n step : Int) : ∃ r, m_ref09_Find ⟨c⟩ n step w = some r ∧ FindR (layC c) w n step r := by
  have hpg := h.pages
  have e0 : (layC c).c.Pages = c.Pages := rfl
  unfold m_ref09_Find FindR
  by_cases a : n < 1
  · rw [decide_eq_true a, cond_true]; exact ⟨_, rfl, by rw [if_neg (by omega)]⟩
  rw [decide_eq_false a, cond_false]
  by_cases b : step < 1
  · rw [decide_eq_true b, cond_true]; exact ⟨_, rfl, by rw [if_neg (by omega)]⟩
  rw [decide_eq_false b, cond_false]
  simp only [if_pos (show 1 ≤ n ∧ 1 ≤ step by omega), e0]
  have hst : (!step == 0) = true := by simp; omega
  have inner : ∃ r, lp_ref09_Find_L2 ⟨c⟩ n step w 0 = some r ∧ Least c.Pages (Does c.Pages step n (fun j => knd (layC c).at_1 c.Pages w j = 0)) r :=
    loopO_ind (step := fun s : Int => sb_ref09_Find_L2 ⟨c⟩ n step w s) (I := fun p => 0 ≤ p ∧ p ≤ c.Pages ∧ ∀ q, 0 ≤ q → q < p → ¬ Does c.Pages step n (fun j => knd (layC c).at_1 c.Pages w j = 0) q) (μ := fun p => (c.Pages - p).toNat)
      (fun r => Least c.Pages (Does c.Pages step n (fun j => knd (layC c).at_1 c.Pages w j = 0)) r) (by
        rintro p ⟨p0, p1, p2⟩
        simp only [sb_ref09_Find_L2]
        by_cases cc : p < c.Pages
        · rw [decide_eq_true cc, cond_true, hst, cond_true, Int.tmod_eq_emod_of_nonneg p0, wrap_id (x := p + 1) (by omega) (by omega)]
          have next : ¬ Does c.Pages step n (fun j => knd (layC c).at_1 c.Pages w j = 0) p → 0 ≤ p + 1 ∧ p + 1 ≤ c.Pages ∧ ∀ q, 0 ≤ q → q < p + 1 → ¬ Does c.Pages step n (fun j => knd (layC c).at_1 c.Pages w j = 0) q := fun hn =>
            ⟨by omega, by omega, fun q q0 q1 => by
              by_cases f : q = p
              · rw [f]; exact hn
              · exact p2 q q0 (by omega)⟩
          by_cases m : p % step = 0
          · have em : (p % step == 0) = true := by rw [m]; rfl
            obtain ⟨b, b1, b2⟩ := r9open_eq h v p n false
            rw [em, cond_true, b1, Option.bind_some]
            cases b with
            | true => exact .inr ⟨_, rfl, fit_hit (open_does0.1 ⟨m, b2.1 rfl⟩) p2⟩
            | false => exact .inl ⟨_, rfl, next (fun d => by have := b2.2 (open_does0.2 d).2; cases this), by omega⟩
          · have em : (p % step == 0) = false := by simpa using m
            rw [em, cond_false]
            exact .inl ⟨_, rfl, next (fun d => m d.mul), by omega⟩
        · rw [decide_eq_false cc, cond_false]
          exact .inr ⟨_, rfl, .inl ⟨rfl, fun q q0 q1 => p2 q q0 (by omega)⟩⟩) 0 ⟨by omega, by omega, fun q q0 q1 => by omega⟩
  obtain ⟨r2, k1, k2⟩ := inner
  exact loopO_ind (step := fun s : Int => sb_ref09_Find_L1 ⟨c⟩ n step w s) (I := fun p => 0 ≤ p ∧ p ≤ c.Pages ∧ ∀ q, 0 ≤ q → q < p → ¬ Does c.Pages step n (fun j => knd (layC c).at_1 c.Pages w j = 0 ∧ mpd (layC c) w j) q) (μ := fun p => (c.Pages - p).toNat)
    (fun r => Found c.Pages step n (fun j => knd (layC c).at_1 c.Pages w j = 0) (mpd (layC c) w) r) (by
      rintro p ⟨p0, p1, p2⟩
      simp only [sb_ref09_Find_L1]
      by_cases cc : p < c.Pages
      · rw [decide_eq_true cc, cond_true, hst, cond_true, Int.tmod_eq_emod_of_nonneg p0, wrap_id (x := p + 1) (by omega) (by omega)]
        have next : ¬ Does c.Pages step n (fun j => knd (layC c).at_1 c.Pages w j = 0 ∧ mpd (layC c) w j) p → 0 ≤ p + 1 ∧ p + 1 ≤ c.Pages ∧ ∀ q, 0 ≤ q → q < p + 1 → ¬ Does c.Pages step n (fun j => knd (layC c).at_1 c.Pages w j = 0 ∧ mpd (layC c) w j) q := fun hn =>
          ⟨by omega, by omega, fun q q0 q1 => by
            by_cases f : q = p
            · rw [f]; exact hn
            · exact p2 q q0 (by omega)⟩
        by_cases m : p % step = 0
        · have em : (p % step == 0) = true := by rw [m]; rfl
          obtain ⟨b, b1, b2⟩ := r9open_eq h v p n true
          rw [em, cond_true, b1, Option.bind_some]
          cases b with
          | true => exact .inr ⟨_, rfl, .inl ⟨p0, fit_hit (open_does.1 ⟨m, b2.1 rfl⟩) p2⟩⟩
          | false => exact .inl ⟨_, rfl, next (fun d => by have := b2.2 (open_does.2 d).2; cases this), by omega⟩
        · have em : (p % step == 0) = false := by simpa using m
          rw [em, cond_false]
          exact .inl ⟨_, rfl, next (fun d => m d.mul), by omega⟩
      · rw [decide_eq_false cc, cond_false, k1]
        exact .inr ⟨_, rfl, .inr ⟨.inl ⟨rfl, fun q q0 q1 => p2 q q0 (by omega)⟩, k2⟩⟩) 0 ⟨by omega, by omega, fun q q0 q1 => by omega⟩

theorem r9set_eq (h : RightC c) (v : VOK (layC c) w.length w) {p : Int} (hp : 0 ≤ p ∧ p < c.Pages) (k n : Int) : m_ref09_set ⟨c⟩ p k n w = some (setP (layC c).at_1 c.Pages w p k n) := by
  have g := v.lay.geoK; have ha := v.all; have hpg := h.pages
  have e0 : (layC c).c = c := rfl
  rw [e0] at g
  unfold m_ref09_set
  have e1 : lPg (layC c) (layC c).at_1 p = (layC c).at_1 + p := by unfold lPg; rw [e0, if_pos hp]
  have e2 : lPg (layC c) (layC c).at_2 p = (layC c).at_1 + c.Pages + p := by unfold lPg; rw [e0, if_pos hp]; omega
  have e3 : lPg (layC c) (layC c).at_3 p = (layC c).at_1 + 2 * c.Pages + p := by unfold lPg; rw [e0, if_pos hp]; omega
  rw [rKind_eq h, Option.bind_some, rCount_eq h, Option.bind_some, rBits_eq h, Option.bind_some, e1, e2, e3, offs_id (by omega), offs_id (by omega), offs_id (by omega)]
  simp only [List.length_set]
  rw [inR_int (by omega) (by omega), inR_int (by omega) (by omega), inR_int (by omega) (by omega)]; rfl
theorem r9Take_no (h : RightC c) (v : VOK (layC c) w.length w) {p n k : Int} (hm : ¬ MayTake (layC c) w p n k) : m_ref09_Take ⟨c⟩ p n k w = some (false, w) := by
  unfold m_ref09_Take
  obtain ⟨b, b1, b2⟩ := r9open_eq h v p n false
  rw [b1, Option.bind_some]
  cases b with
  | false => rfl
  | true =>
    have f := (b2.1 rfl).1
    rw [Bool.not_true, cond_false]
    by_cases k1 : k < 1
    · rw [decide_eq_true k1]; rfl
    rw [decide_eq_false k1, cond_false]
    by_cases k2 : k > 6
    · rw [decide_eq_true k2]; rfl
    rw [decide_eq_false k2, cond_false]
    by_cases c6 : k < 6
    · by_cases e : n = 1
      · exact (hm ⟨by omega, fun _ => e, f⟩).elim
      · have e1 : (n != 1) = true := by simpa using e
        rw [decide_eq_true c6, cond_true, e1]; rfl
    · exact (hm ⟨by omega, fun x => (c6 x).elim, f⟩).elim
theorem r9Take_yes (h : RightC c) (v : VOK (layC c) w.length w) {p n k : Int} (hm : MayTake (layC c) w p n k) : ∃ u, m_ref09_Take ⟨c⟩ p n k w = some (true, u) ∧ (∀ u', TakeW (layC c) w u' p n k → u = u') := by
  obtain ⟨⟨k1, k2⟩, k3, f⟩ := hm
  have hs := f.span
  have e0 : (layC c).c.Pages = c.Pages := rfl
  rw [e0] at hs
  have hpg := h.pages
  obtain ⟨b, b1, b2⟩ := r9open_eq h v p n false
  have hb : b = true := b2.2 ⟨f, fun x => by cases x⟩
  subst hb
  have ve : VOK (layC c) (ensM w c.Pages (layC c).at_0 p n).2.length (ensM w c.Pages (layC c).at_0 p n).2 := ⟨v.lay, rfl, by unfold ensM; rw [ensG_len]; exact v.all⟩
  have g : GeoK (layC c).at_1 c.Pages (ensM w c.Pages (layC c).at_0 p n).2.length := ve.geoK
  have loop : ∃ u, lp_ref09_Take_L1 ⟨c⟩ p n k (p, (ensM w c.Pages (layC c).at_0 p n).2) = some (true, u) ∧ ∃ u2, Ran (layC c).at_1 c.Pages (ensM w c.Pages (layC c).at_0 p n).2 u2 p n 7 ∧ u = setP (layC c).at_1 c.Pages u2 p k (if k = 6 then n else 0) := by
    generalize (ensM w c.Pages (layC c).at_0 p n).2 = w0 at *
    obtain ⟨r, h1, u, rfl, h2⟩ := loopO_ind (step := fun s : Int × List Int => sb_ref09_Take_L1 ⟨c⟩ p n k s.1 s.2)
      (I := fun s => p ≤ s.1 ∧ s.1 ≤ p + n ∧ Ran (layC c).at_1 c.Pages w0 s.2 p (s.1 - p) 7) (μ := fun s => (p + n - s.1).toNat) (fun r => ∃ u, r = (true, u) ∧ ∃ u2, Ran (layC c).at_1 c.Pages w0 u2 p n 7 ∧ u = setP (layC c).at_1 c.Pages u2 p k (if k = 6 then n else 0)) (by
        rintro ⟨i, u⟩ ⟨i1, i2, i3⟩
        simp only at i1 i2 i3 ⊢
        simp only [sb_ref09_Take_L1]
        have vu : VOK (layC c) u.length u := ⟨v.lay, rfl, by rw [i3.len]; exact ve.all⟩
        rw [wrap_id (x := p + n) (by omega) (by omega)]
        by_cases cc : i < p + n
        · rw [decide_eq_true cc, cond_true, r9set_eq h vu (by omega), Option.bind_some, wrap_id (by omega) (by omega)]
          have st := i3.step g (by omega) (by omega) (by omega)
          rw [show p + (i - p) = i by omega, show i - p + 1 = i + 1 - p by omega] at st
          exact .inl ⟨_, rfl, ⟨by simp only; omega, by simp only; omega, st⟩, by simp only; omega⟩
        · have e : i = p + n := by omega
          subst e
          rw [show p + n - p = n by omega] at i3
          rw [decide_eq_false cc, cond_false, r9set_eq h vu (by omega), r9set_eq h vu (by omega), Option.bind_some, Option.bind_some]
          by_cases e : k = 6
          · have e1 : (k == 6) = true := by rw [e]; rfl
            rw [e1, cond_true]
            exact .inr ⟨_, rfl, _, rfl, u, i3, by rw [if_pos e]⟩
          · have e1 : (k == 6) = false := by simpa using e
            rw [e1, cond_false]
            exact .inr ⟨_, rfl, _, rfl, u, i3, by rw [if_neg e]⟩) (p, w0) ⟨by omega, by omega, by simpa using Ran.zero _ _ _ _ _⟩
    exact ⟨u, h1, h2⟩
  obtain ⟨u, h1, u2, h2, rfl⟩ := loop
  refine ⟨_, ?_, fun u' t => take_same g hs t.ran h2⟩
  unfold m_ref09_Take
  rw [b1, Option.bind_some, Bool.not_true, cond_false, decide_eq_false (show ¬ k < 1 by omega), cond_false, decide_eq_false (show ¬ k > 6 by omega), cond_false, rEnsure_eq h v, Option.bind_some, h1]
  by_cases c6 : k < 6
  · have e : (n != 1) = false := by rw [k3 c6]; rfl
    rw [decide_eq_true c6, cond_true, e]; rfl
  · rw [decide_eq_false c6]; rfl

theorem r9Drop_eq (h : RightC c) (v : VOK (layC c) w.length w) (p : Int) : ∃ n u, m_ref09_Drop ⟨c⟩ p w = some (n, u) ∧
    ((1 ≤ knd (layC c).at_1 c.Pages w p ∧ knd (layC c).at_1 c.Pages w p ≤ 6 ∧ RunLen (layC c).at_1 c.Pages w p n ∧ Ran (layC c).at_1 c.Pages w u p n 0) ∨
     (¬ (1 ≤ knd (layC c).at_1 c.Pages w p ∧ knd (layC c).at_1 c.Pages w p ≤ 6) ∧ n = 0 ∧ u = w)) := by
  have hpg := h.pages
  have g : GeoK (layC c).at_1 c.Pages w.length := v.geoK
  unfold m_ref09_Drop
  rw [r9Kind_eq h v, Option.bind_some]
  by_cases a : knd (layC c).at_1 c.Pages w p < 1
  · rw [decide_eq_true a, cond_true]
    exact ⟨_, _, rfl, .inr ⟨by omega, rfl, rfl⟩⟩
  rw [decide_eq_false a, cond_false]
  by_cases b : knd (layC c).at_1 c.Pages w p > 6
  · rw [decide_eq_true b, cond_true]
    exact ⟨_, _, rfl, .inr ⟨by omega, rfl, rfl⟩⟩
  rw [decide_eq_false b, cond_false]
  have hp : 0 ≤ p ∧ p < c.Pages := by
    by_cases h : 0 ≤ p ∧ p < c.Pages
    · exact h
    · rw [knd_out h] at a; omega
  rw [r9set_eq h v hp, Option.bind_some]
  have r1 : Ran (layC c).at_1 c.Pages w (setP (layC c).at_1 c.Pages w p 0 0) p 1 0 := by
    have := (Ran.zero (layC c).at_1 c.Pages w p 0).step g (by omega) (by omega) (by omega)
    simpa using this
  obtain ⟨⟨n, u⟩, h1, h2, h3⟩ := loopO_ind (step := fun s : Int × List Int => sb_ref09_Drop_L1 ⟨c⟩ p (knd (layC c).at_1 c.Pages w p) s.1 s.2)
    (I := fun s => 1 ≤ s.1 ∧ p + s.1 ≤ c.Pages ∧ (knd (layC c).at_1 c.Pages w p ≠ 6 → s.1 = 1) ∧ (∀ i, 1 ≤ i → i < s.1 → knd (layC c).at_1 c.Pages w (p + i) = 7) ∧ Ran (layC c).at_1 c.Pages w s.2 p s.1 0) (μ := fun s => (c.Pages - s.1).toNat)
    (fun r => RunLen (layC c).at_1 c.Pages w p r.1 ∧ Ran (layC c).at_1 c.Pages w r.2 p r.1 0) (by
      rintro ⟨i, u⟩ ⟨i1, i2, i3, i4, i5⟩
      simp only at i1 i2 i3 i4 i5 ⊢
      simp only [sb_ref09_Drop_L1]
      have vu : VOK (layC c) u.length u := ⟨v.lay, rfl, by rw [i5.len]; exact v.all⟩
      by_cases c6 : knd (layC c).at_1 c.Pages w p = 6
      · have e6 : (knd (layC c).at_1 c.Pages w p == 6) = true := by rw [c6]; rfl
        have hk : knd (layC c).at_1 c.Pages u (p + i) = knd (layC c).at_1 c.Pages w (p + i) := by rw [i5.knd g hp.1 i2, if_neg (by omega)]
        rw [e6, cond_true, wrap_id (x := p + i) (by omega) (by omega), r9Kind_eq h vu, Option.bind_some, hk]
        by_cases d : knd (layC c).at_1 c.Pages w (p + i) = 7
        · have e7 : (knd (layC c).at_1 c.Pages w (p + i) == 7) = true := by rw [d]; rfl
          have hin : p + i < c.Pages := by
            by_cases h : p + i < c.Pages
            · exact h
            · rw [knd_out (by omega)] at d; omega
          rw [e7, cond_true, r9set_eq h vu (by omega), Option.bind_some, wrap_id (by omega) (by omega)]
          refine .inl ⟨_, rfl, ⟨by simp only; omega, by simp only; omega, fun x => (x c6).elim, fun j j0 j1 => ?_, i5.step g hp.1 (by omega) hin⟩, by simp only; omega⟩
          by_cases f : j = i
          · rw [f]; exact d
          · exact i4 j j0 (by simp only at j1; omega)
        · have e7 : (knd (layC c).at_1 c.Pages w (p + i) == 7) = false := by simpa using d
          rw [e7, cond_false]
          exact .inr ⟨_, rfl, ⟨i1, i2, i4, fun _ => d, i3⟩, i5⟩
      · have e6 : (knd (layC c).at_1 c.Pages w p == 6) = false := by simpa using c6
        rw [e6, cond_false]
        exact .inr ⟨_, rfl, ⟨i1, i2, i4, fun x => (c6 x).elim, i3⟩, i5⟩) (1, setP (layC c).at_1 c.Pages w p 0 0) ⟨by omega, by simp only; omega, fun _ => rfl, fun j j0 j1 => by simp only at j1; omega, r1⟩
  refine ⟨n, u, h1, .inl ⟨by omega, by omega, h2, h3⟩⟩

theorem r8Pages_eq (h : RightC c) (k : Int) : m_ref08_Pages ⟨c⟩ k = some (pagesI c.Pages k, pagesN c.Pages k) := by
  have hpg := h.pages
  unfold m_ref08_Pages
  rw [rthere_eq h, Option.bind_some]
  unfold pagesI pagesN
  cases ht : thereB c.Pages k with
  | false => rfl
  | true =>
    obtain ⟨t1, t2⟩ := there_of ht
    simp only [cond_true, Bool.not_true, cond_false]
    rw [wrap_id (x := 4 * k) (by omega) (by omega), wrap_id (x := c.Pages - 4 * k) (by omega) (by omega)]
    congr 2
    rw [Int.min_def]; split <;> split <;> omega
theorem r9Trim_eq (h : RightC c) (v : VOK (layC c) w.length w) : m_ref09_Trim ⟨c⟩ w = some (countM w c.Pages (layC c).at_0 - countM (trimM (layC c) w) c.Pages (layC c).at_0, trimM (layC c) w) := by
  have hpg := h.pages
  have e0 : (layC c).c.Pages = c.Pages := rfl
  have vk : ∀ k, VOK (layC c) (trimN (layC c) w k).length (trimN (layC c) w k) := fun k => ⟨v.lay, rfl, by rw [trimN_len]; exact v.all⟩
  unfold m_ref09_Trim
  rw [rCount8_eq h v, Option.bind_some]
  obtain ⟨r, h1, rfl⟩ := loopO_ind (step := fun s : Int × List Int => sb_ref09_Trim_L1 ⟨c⟩ (countM w c.Pages (layC c).at_0) s.1 s.2)
    (I := fun s => ∃ k : Nat, (k : Int) ≤ (c.Pages + 3) / 4 ∧ s = ((k : Int), trimN (layC c) w k)) (μ := fun s => ((c.Pages + 3) / 4 - s.1).toNat)
    (fun r => r = (countM w c.Pages (layC c).at_0 - countM (trimM (layC c) w) c.Pages (layC c).at_0, trimM (layC c) w)) (by
      rintro _ ⟨k, hk, rfl⟩
      simp only [sb_ref09_Trim_L1]
      rw [rChunks_eq h, Option.bind_some]
      by_cases cc : (k : Int) < (c.Pages + 3) / 4
      · rw [decide_eq_true cc, cond_true, r8Pages_eq h, Option.bind_some]
        simp only
        obtain ⟨b, b1, b2⟩ := r9open_eq h (vk k) (pagesI c.Pages k) (pagesN c.Pages k) false
        rw [b1, Option.bind_some, wrap_succ (by omega)]
        have hf : OpenR (layC c).at_1 c.Pages (layC c).at_0 (trimN (layC c) w k) false (pagesI c.Pages k) (pagesN c.Pages k) ↔ FreeR (layC c).at_1 c.Pages w (pagesI c.Pages k) (pagesN c.Pages k) := by
          have tf : FreeR (layC c).at_1 c.Pages (trimN (layC c) w k) (pagesI c.Pages k) (pagesN c.Pages k) ↔ FreeR (layC c).at_1 c.Pages w (pagesI c.Pages k) (pagesN c.Pages k) := trim_free v.lay k _ _
          exact ⟨fun x => tf.1 x.1, fun x => ⟨tf.2 x, fun y => by cases y⟩⟩
        by_cases f : FreeR (layC c).at_1 c.Pages w (pagesI c.Pages k) (pagesN c.Pages k)
        · have e1 : trimN (layC c) w (k + 1) = turnU (trimN (layC c) w k) c.Pages (layC c).at_0 k 0 := by simp only [trimN]; rw [e0, if_pos f]
          rw [b2.2 (hf.2 f), cond_true, rTurn_eq h (vk k), Option.bind_some]
          exact .inl ⟨_, rfl, ⟨k + 1, by omega, by rw [e1]⟩, by simp only; omega⟩
        · have e1 : trimN (layC c) w (k + 1) = trimN (layC c) w k := by simp only [trimN]; rw [e0, if_neg f]
          have hb : b = false := by
            cases b with
            | false => rfl
            | true => exact (f (hf.1 (b2.1 rfl))).elim
          rw [hb, cond_false]
          exact .inl ⟨_, rfl, ⟨k + 1, by omega, by rw [e1]⟩, by simp only; omega⟩
      · have e : k = ((c.Pages + 3) / 4).toNat := by omega
        have hc0 := countM_b w hpg (layC c).at_0
        have hc1 := countM_b (trimN (layC c) w k) hpg (layC c).at_0
        rw [decide_eq_false cc, cond_false, rCount8_eq h (vk k), Option.bind_some, wrap_id (by omega) (by omega)]
        exact .inr ⟨_, rfl, by unfold trimM; rw [e0, e]⟩) (0, w) ⟨0, by omega, rfl⟩
  exact h1
end
end Go.Rx
end
