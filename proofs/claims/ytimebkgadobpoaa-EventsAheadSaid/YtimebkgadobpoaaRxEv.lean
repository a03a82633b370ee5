/- The event's struct, as a row reads it. -/
import Derived.Test.YtimebkgadobpoaaRxR
namespace Go.Rx
open Go.ChangeShapes Go.WideShapes

theorem elOK_ev {P : Program} {elT : ET} {fs : Array Field} (ht : P.underlying (elT 3) = some (.struct fs)) (hc : P.cellsOf (elT 3) = 23)
    (hf : flatK P 6 (elT 3) = some (List.replicate 20 true ++ [false, false, false])) : ElOK P elT 3 := by
  refine ⟨hc, fun enc W base sp held fuel cs x h => ?_, fun W r b v e hv hcs ρ => struct_value ht hv hcs ρ⟩
  obtain ⟨hlen, hg⟩ := flatK_good 6 (elT 3) _ fuel cs x hf h
  have hlen : cs.length = 23 := hlen
  have hI : ∀ i, i < 20 → ∃ n, cs[i]? = some (.int .i64 n) ∧ (Lit.int .i64 n).wf = true := fun i hi => hg i true (by
    rw [List.getElem?_append_left (by simpa using hi), List.getElem?_replicate, if_pos hi])
  obtain ⟨b0, hb0⟩ := hg 20 false rfl
  obtain ⟨b1, hb1⟩ := hg 21 false rfl
  obtain ⟨b2, hb2⟩ := hg 22 false rfl
  obtain ⟨N, hN⟩ := Deep.choose_lt (n := 20) hI
  have hcs : cs = encEv ⟨N 0, N 1, N 2, N 3, N 4, N 5, N 6, N 7, N 8, N 9, N 10, N 11, N 12, N 13, N 14, N 15, N 16, N 17, N 18, N 19, b0, b1, b2⟩ := by
    apply List.ext_getElem?
    intro i
    have hE : (encEv ⟨N 0, N 1, N 2, N 3, N 4, N 5, N 6, N 7, N 8, N 9, N 10, N 11, N 12, N 13, N 14, N 15, N 16, N 17, N 18, N 19, b0, b1, b2⟩) = (List.range 20).map (fun i => i64 (N i)) ++ [.bool b0, .bool b1, .bool b2] := rfl
    rw [hE]
    rcases Nat.lt_or_ge i 20 with hi | hi
    · rw [List.getElem?_append_left (by simp; omega), List.getElem?_map, List.getElem?_range hi, (hN i hi).1]
      rfl
    · rcases Nat.lt_or_ge i 23 with h2 | h2
      · have : i = 20 ∨ i = 21 ∨ i = 22 := by omega
        rcases this with rfl | rfl | rfl
        · rw [hb0]; rfl
        · rw [hb1]; rfl
        · rw [hb2]; rfl
      · rw [List.getElem?_eq_none (by omega), List.getElem?_eq_none (by simp; omega)]
  refine ⟨_, hcs, fun k m hm => ?_⟩
  have hm' : Value.int k m ∈ cs := by rw [hcs]; exact hm
  obtain ⟨i, hi⟩ := List.getElem?_of_mem hm'
  have hi23 : i < 23 := by rw [← hlen]; exact (List.getElem?_eq_some_iff.1 hi).1
  rcases Nat.lt_or_ge i 20 with h20 | h20
  · obtain ⟨h1, h2⟩ := hN i h20
    rw [h1] at hi
    injection hi with hi
    injection hi with e1 e2
    subst e1; subst e2
    exact h2
  · have : i = 20 ∨ i = 21 ∨ i = 22 := by omega
    rcases this with rfl | rfl | rfl
    · rw [hb0] at hi; cases hi
    · rw [hb1] at hi; cases hi
    · rw [hb2] at hi; cases hi
end Go.Rx
