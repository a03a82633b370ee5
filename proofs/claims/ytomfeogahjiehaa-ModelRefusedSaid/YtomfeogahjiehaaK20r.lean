/- The row of 'ModelRefused': whatever the input, the law returns true, and every argument reads behind the call as before. No condition. -/
import Derived.Test.YtomfeogahjiehaaK20rD
import Derived.Test.YtomfeogahjiehaaRows
namespace Go.Proofs.Ytomfeogahjiehaa.Laws20
open Go.ChangeShapes Go.WideShapes Go.ChangeAt Go.RowKit Go.Rx

theorem own_modelRefused_said : ownKnob Try.prog.godebug = none := by kernel_rfl
theorem laid_modelRefused_said : laidOutB Try.prog = true := by kernel_rfl
theorem tbool_modelRefused_said : Try.prog.underlying 4 = some .bool := by kernel_rfl
noncomputable def fs14 : Array Field := match Try.prog.underlying (elTT 14) with | some (.struct fs) => fs | _ => #[]
theorem el14_ok : ElOK Try.prog elTT 14 := elOK_ints (m := 10) (fs := fs14) (by kernel_rfl) (by kernel_rfl) (by kernel_rfl)
noncomputable def fs19 : Array Field := match Try.prog.underlying (elTT 19) with | some (.struct fs) => fs | _ => #[]
theorem el19_ok : ElOK Try.prog elTT 19 := elOK_ints (m := 15) (fs := fs19) (by kernel_rfl) (by kernel_rfl) (by kernel_rfl)

set_option maxRecDepth 100000 in
theorem modelRefused_said_lifted (os : Os) (started : os.Started) (H : Type) (enc : TypeId × Value → H) :
    ReturnsInHanded {} Try.checked os 6 .any (Rows.modelRefusedSpec.pre6 enc Try.prog Try.f6 Rows.modelRefusedRow.domain false) (Rows.modelRefusedSpec.post enc Try.prog Try.f6 false true false false) := by
  refine returnsInHanded_of_change (C := Try.checked) own_modelRefused_said started (by kernel_rfl) (by kernel_rfl)
    (ChangeSpec.witness6 (enc := enc) (C := Try.checked) false ⟨#[], #[.agg #[.int .i64 0, .int .i64 0, .int .i64 0, .int .i64 0, .int .i64 0, .int .i64 0, .int .i64 0, .int .i64 0, .int .i64 0, .int .i64 0, .int .i64 0], .slice none 0 0, .agg #[.int .i64 0, .int .i64 0, .int .i64 0, .int .i64 0, .int .i64 0, .int .i64 0, .int .i64 0, .int .i64 0, .int .i64 0, .int .i64 0, .int .i64 0, .int .i64 0, .int .i64 0, .int .i64 0, .int .i64 0, .int .i64 0]], []⟩ 8 (by kernel_rfl) (by kernel_rfl) (by kernel_rfl) (by kernel_rfl)) ?_
  intro W base args ds gs before hval hW _ _
  exact ya8 (elT := elTT) (f := Try.f6) (ks := [.el 14, .row 19, .el 19]) y9x (show AKsOK Try.prog elTT [.el 14, .row 19, .el 19] [23, 24, 48] from ⟨⟨rfl, el14_ok⟩, ⟨by kernel_rfl, el19_ok⟩, ⟨rfl, el19_ok⟩, trivial⟩) laid_modelRefused_said tbool_modelRefused_said (by kernel_rfl) (by kernel_rfl) rfl (fun ds h => by
    match ds, h with
    | [_, _, _], _ => rfl) hval hW

/-- 'ModelRefused': whatever the input, the law returns true, and every argument reads behind the call as before. No condition. -/
theorem modelRefused_said : Rows.ModelRefusedSaid :=
  OpenClaim.holds_of_wide 6 Try.f6 rfl rfl rfl rfl rfl rfl rfl ⟨rfl, rfl, rfl, rfl, rfl⟩ rfl rfl rfl rfl rfl (by kernel_rfl) (by kernel_rfl) (by kernel_rfl)
    (of_decide_eq_true (by kernel_rfl)) (by unfold Func.isWrapper; first | (rw [if_pos (by decide +kernel)]; kernel_rfl) | (rw [if_neg (by decide +kernel)]; exact ⟨rfl, rfl⟩))
    (fun os started H enc _ => modelRefused_said_lifted os started H enc)

#print axioms modelRefused_said
end Go.Proofs.Ytomfeogahjiehaa.Laws20
