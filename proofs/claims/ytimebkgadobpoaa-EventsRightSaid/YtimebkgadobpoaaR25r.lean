/- The row of 'EventsRight': whatever the input, the law returns true, and every argument reads behind the call as before. No condition. -/
import Derived.Test.YtimebkgadobpoaaD25e
import Derived.Test.YtimebkgadobpoaaRxEv
import Derived.Test.YtimebkgadobpoaaRows
namespace Go.Proofs.Ytimebkgadobpoaa.Laws25
open Go.ChangeShapes Go.WideShapes Go.ChangeAt Go.RowKit Go.Rx

theorem own_eventsRight_said : ownKnob Try.prog.godebug = none := by kernel_rfl
theorem laid_eventsRight_said : laidOutB Try.prog = true := by kernel_rfl
theorem tbool_eventsRight_said : Try.prog.underlying 4 = some .bool := by kernel_rfl

noncomputable def evFs_eventsRight_said : Array Field := match Try.prog.underlying 36 with | some (.struct fs) => fs | _ => #[]
theorem ev_ok_eventsRight_said : ElOK Try.prog elTT 3 := elOK_ev (fs := evFs_eventsRight_said) (by kernel_rfl) (by kernel_rfl) (by kernel_rfl)
theorem row_ev_eventsRight_said : AKOK Try.prog elTT (.row 3) 22 := ⟨by kernel_rfl, ev_ok_eventsRight_said⟩
theorem el_int_eventsRight_said : AKOK Try.prog elTT (.el 0) 3 := ⟨rfl, elOK_int (by kernel_rfl) (by kernel_rfl)⟩

set_option maxRecDepth 100000 in
theorem eventsRight_said_lifted (os : Os) (started : os.Started) (H : Type) (enc : TypeId × Value → H) :
    ReturnsInHanded {} Try.checked os 3 .any (Rows.eventsRightSpec.pre6 enc Try.prog Try.f3 Rows.eventsRightRow.domain false) (Rows.eventsRightSpec.post enc Try.prog Try.f3 false true false false) := by
  refine returnsInHanded_of_change (C := Try.checked) own_eventsRight_said started (by kernel_rfl) (by kernel_rfl)
    (ChangeSpec.witness6 (enc := enc) (C := Try.checked) false ⟨#[], #[.int .i64 0, .slice none 0 0], []⟩ 8 (by kernel_rfl) (by kernel_rfl) (by kernel_rfl) (by kernel_rfl)) ?_
  intro W base args ds gs before hval hW _ _
  exact law_calls (elT := elTT) (f := Try.f3) (ks := [.el 0, .row 3]) eventsRight_law (show AKsOK Try.prog elTT [.el 0, .row 3] [3, 22] from ⟨el_int_eventsRight_said, row_ev_eventsRight_said, trivial⟩) laid_eventsRight_said tbool_eventsRight_said (by kernel_rfl) (by kernel_rfl) rfl (fun ds h => by
    match ds, h with
    | [_, _], _ => rfl) hval hW

/-- 'EventsRight': whatever the input, the law returns true, and every argument reads behind the call as before. No condition. -/
theorem eventsRight_said : Rows.EventsRightSaid :=
  OpenClaim.holds_of_wide 3 Try.f3 rfl rfl rfl rfl rfl rfl rfl ⟨rfl, rfl, rfl, rfl, rfl⟩ rfl rfl rfl rfl rfl (by kernel_rfl) (by kernel_rfl) (by kernel_rfl)
    (of_decide_eq_true (by kernel_rfl)) (by unfold Func.isWrapper; first | (rw [if_pos (by decide +kernel)]; kernel_rfl) | (rw [if_neg (by decide +kernel)]; exact ⟨rfl, rfl⟩))
    (fun os started H enc _ => eventsRight_said_lifted os started H enc)

#print axioms eventsRight_said
end Go.Proofs.Ytimebkgadobpoaa.Laws25
