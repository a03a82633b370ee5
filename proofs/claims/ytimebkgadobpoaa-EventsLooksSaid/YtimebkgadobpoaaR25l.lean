/- The row of 'EventsLooks': whatever the input, the law returns true, and every argument reads behind the call as before. No condition. -/
import Derived.Test.YtimebkgadobpoaaD25e
import Derived.Test.YtimebkgadobpoaaRxEv
import Derived.Test.YtimebkgadobpoaaRows
namespace Go.Proofs.Ytimebkgadobpoaa.Laws25
open Go.ChangeShapes Go.WideShapes Go.ChangeAt Go.RowKit Go.Rx

theorem own_eventsLooks_said : ownKnob Try.prog.godebug = none := by kernel_rfl
theorem laid_eventsLooks_said : laidOutB Try.prog = true := by kernel_rfl
theorem tbool_eventsLooks_said : Try.prog.underlying 4 = some .bool := by kernel_rfl

noncomputable def evFs_eventsLooks_said : Array Field := match Try.prog.underlying 36 with | some (.struct fs) => fs | _ => #[]
theorem ev_ok_eventsLooks_said : ElOK Try.prog elTT 3 := elOK_ev (fs := evFs_eventsLooks_said) (by kernel_rfl) (by kernel_rfl) (by kernel_rfl)
theorem row_ev_eventsLooks_said : AKOK Try.prog elTT (.row 3) 22 := ⟨by kernel_rfl, ev_ok_eventsLooks_said⟩
theorem el_int_eventsLooks_said : AKOK Try.prog elTT (.el 0) 3 := ⟨rfl, elOK_int (by kernel_rfl) (by kernel_rfl)⟩

set_option maxRecDepth 100000 in
theorem eventsLooks_said_lifted (os : Os) (started : os.Started) (H : Type) (enc : TypeId × Value → H) :
    ReturnsInHanded {} Try.checked os 6 .any (Rows.eventsLooksSpec.pre6 enc Try.prog Try.f6 Rows.eventsLooksRow.domain false) (Rows.eventsLooksSpec.post enc Try.prog Try.f6 false true false false) := by
  refine returnsInHanded_of_change (C := Try.checked) own_eventsLooks_said started (by kernel_rfl) (by kernel_rfl)
    (ChangeSpec.witness6 (enc := enc) (C := Try.checked) false ⟨#[], #[.slice none 0 0, .int .i64 0, .int .i64 0], []⟩ 8 (by kernel_rfl) (by kernel_rfl) (by kernel_rfl) (by kernel_rfl)) ?_
  intro W base args ds gs before hval hW _ _
  exact law_calls (elT := elTT) (f := Try.f6) (ks := [.row 3, .el 0, .el 0]) eventsLooks_law (show AKsOK Try.prog elTT [.row 3, .el 0, .el 0] [22, 3, 3] from ⟨row_ev_eventsLooks_said, el_int_eventsLooks_said, el_int_eventsLooks_said, trivial⟩) laid_eventsLooks_said tbool_eventsLooks_said (by kernel_rfl) (by kernel_rfl) rfl (fun ds h => by
    match ds, h with
    | [_, _, _], _ => rfl) hval hW

/-- 'EventsLooks': whatever the input, the law returns true, and every argument reads behind the call as before. No condition. -/
theorem eventsLooks_said : Rows.EventsLooksSaid :=
  OpenClaim.holds_of_wide 6 Try.f6 rfl rfl rfl rfl rfl rfl rfl ⟨rfl, rfl, rfl, rfl, rfl⟩ rfl rfl rfl rfl rfl (by kernel_rfl) (by kernel_rfl) (by kernel_rfl)
    (of_decide_eq_true (by kernel_rfl)) (by unfold Func.isWrapper; first | (rw [if_pos (by decide +kernel)]; kernel_rfl) | (rw [if_neg (by decide +kernel)]; exact ⟨rfl, rfl⟩))
    (fun os started H enc _ => eventsLooks_said_lifted os started H enc)

#print axioms eventsLooks_said
end Go.Proofs.Ytimebkgadobpoaa.Laws25
