/- The row of 'EventsAhead': whatever the input, the law returns true, and every argument reads behind the call as before. No condition. -/
import Derived.Test.YtimebkgadobpoaaD25e
import Derived.Test.YtimebkgadobpoaaRxEv
import Derived.Test.YtimebkgadobpoaaRows
namespace Go.Proofs.Ytimebkgadobpoaa.Laws25
open Go.ChangeShapes Go.WideShapes Go.ChangeAt Go.RowKit Go.Rx

theorem own_eventsAhead_said : ownKnob Try.prog.godebug = none := by kernel_rfl
theorem laid_eventsAhead_said : laidOutB Try.prog = true := by kernel_rfl
theorem tbool_eventsAhead_said : Try.prog.underlying 4 = some .bool := by kernel_rfl

noncomputable def evFs_eventsAhead_said : Array Field := match Try.prog.underlying 36 with | some (.struct fs) => fs | _ => #[]
theorem ev_ok_eventsAhead_said : ElOK Try.prog elTT 3 := elOK_ev (fs := evFs_eventsAhead_said) (by kernel_rfl) (by kernel_rfl) (by kernel_rfl)
theorem el_ev_eventsAhead_said : AKOK Try.prog elTT (.el 3) 36 := ⟨rfl, ev_ok_eventsAhead_said⟩

set_option maxRecDepth 100000 in
theorem eventsAhead_said_lifted (os : Os) (started : os.Started) (H : Type) (enc : TypeId × Value → H) :
    ReturnsInHanded {} Try.checked os 5 .any (Rows.eventsAheadSpec.pre6 enc Try.prog Try.f5 Rows.eventsAheadRow.domain false) (Rows.eventsAheadSpec.post enc Try.prog Try.f5 false true false false) := by
  refine returnsInHanded_of_change (C := Try.checked) own_eventsAhead_said started (by kernel_rfl) (by kernel_rfl)
    (ChangeSpec.witness6 (enc := enc) (C := Try.checked) false ⟨#[], #[.agg #[.int .i64 0, .int .i64 0, .int .i64 0, .int .i64 0, .int .i64 0, .int .i64 0, .int .i64 0, .int .i64 0, .int .i64 0, .int .i64 0, .int .i64 0, .int .i64 0, .int .i64 0, .int .i64 0, .int .i64 0, .int .i64 0, .int .i64 0, .int .i64 0, .int .i64 0, .int .i64 0, .bool false, .bool false, .bool false], .agg #[.int .i64 0, .int .i64 0, .int .i64 0, .int .i64 0, .int .i64 0, .int .i64 0, .int .i64 0, .int .i64 0, .int .i64 0, .int .i64 0, .int .i64 0, .int .i64 0, .int .i64 0, .int .i64 0, .int .i64 0, .int .i64 0, .int .i64 0, .int .i64 0, .int .i64 0, .int .i64 0, .bool false, .bool false, .bool false], .agg #[.int .i64 0, .int .i64 0, .int .i64 0, .int .i64 0, .int .i64 0, .int .i64 0, .int .i64 0, .int .i64 0, .int .i64 0, .int .i64 0, .int .i64 0, .int .i64 0, .int .i64 0, .int .i64 0, .int .i64 0, .int .i64 0, .int .i64 0, .int .i64 0, .int .i64 0, .int .i64 0, .bool false, .bool false, .bool false]], []⟩ 8 (by kernel_rfl) (by kernel_rfl) (by kernel_rfl) (by kernel_rfl)) ?_
  intro W base args ds gs before hval hW _ _
  exact law_calls (elT := elTT) (f := Try.f5) (ks := [.el 3, .el 3, .el 3]) eventsAhead_law (show AKsOK Try.prog elTT [.el 3, .el 3, .el 3] [36, 36, 36] from ⟨el_ev_eventsAhead_said, el_ev_eventsAhead_said, el_ev_eventsAhead_said, trivial⟩) laid_eventsAhead_said tbool_eventsAhead_said (by kernel_rfl) (by kernel_rfl) rfl (fun ds h => by
    match ds, h with
    | [_, _, _], _ => rfl) hval hW

/-- 'EventsAhead': whatever the input, the law returns true, and every argument reads behind the call as before. No condition. -/
theorem eventsAhead_said : Rows.EventsAheadSaid :=
  OpenClaim.holds_of_wide 5 Try.f5 rfl rfl rfl rfl rfl rfl rfl ⟨rfl, rfl, rfl, rfl, rfl⟩ rfl rfl rfl rfl rfl (by kernel_rfl) (by kernel_rfl) (by kernel_rfl)
    (of_decide_eq_true (by kernel_rfl)) (by unfold Func.isWrapper; first | (rw [if_pos (by decide +kernel)]; kernel_rfl) | (rw [if_neg (by decide +kernel)]; exact ⟨rfl, rfl⟩))
    (fun os started H enc _ => eventsAhead_said_lifted os started H enc)

#print axioms eventsAhead_said
end Go.Proofs.Ytimebkgadobpoaa.Laws25
