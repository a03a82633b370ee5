/- The row of 'ModelNil': whatever the input, the law returns true, and every argument reads behind the call as before. No condition. -/
import Derived.Test.YtomfeogahjiehaaK20nC
import Derived.Test.YtomfeogahjiehaaRows
namespace Go.Proofs.Ytomfeogahjiehaa.Laws20
open Go.ChangeShapes Go.WideShapes Go.ChangeAt Go.RowKit Go.Rx

theorem own_modelNil_said : ownKnob Try.prog.godebug = none := by kernel_rfl
theorem laid_modelNil_said : laidOutB Try.prog = true := by kernel_rfl
theorem tbool_modelNil_said : Try.prog.underlying 4 = some .bool := by kernel_rfl
noncomputable def fs14 : Array Field := match Try.prog.underlying (elTT 14) with | some (.struct fs) => fs | _ => #[]
theorem el14_ok : ElOK Try.prog elTT 14 := elOK_ints (m := 10) (fs := fs14) (by kernel_rfl) (by kernel_rfl) (by kernel_rfl)
noncomputable def fs19 : Array Field := match Try.prog.underlying (elTT 19) with | some (.struct fs) => fs | _ => #[]
theorem el19_ok : ElOK Try.prog elTT 19 := elOK_ints (m := 15) (fs := fs19) (by kernel_rfl) (by kernel_rfl) (by kernel_rfl)
theorem el_int_ok : ElOK Try.prog elTT 0 := elOK_int (by kernel_rfl) (by kernel_rfl)

set_option maxRecDepth 100000 in
theorem modelNil_said_lifted (os : Os) (started : os.Started) (H : Type) (enc : TypeId × Value → H) :
    ReturnsInHanded {} Try.checked os 5 .any (Rows.modelNilSpec.pre6 enc Try.prog Try.f5 Rows.modelNilRow.domain false) (Rows.modelNilSpec.post enc Try.prog Try.f5 false true false false) := by
  refine returnsInHanded_of_change (C := Try.checked) own_modelNil_said started (by kernel_rfl) (by kernel_rfl)
    (ChangeSpec.witness6 (enc := enc) (C := Try.checked) false ⟨#[], #[.agg #[.int .i64 0, .int .i64 0, .int .i64 0, .int .i64 0, .int .i64 0, .int .i64 0, .int .i64 0, .int .i64 0, .int .i64 0, .int .i64 0, .int .i64 0], .agg #[.int .i64 0, .int .i64 0, .int .i64 0, .int .i64 0, .int .i64 0, .int .i64 0, .int .i64 0, .int .i64 0, .int .i64 0, .int .i64 0, .int .i64 0, .int .i64 0, .int .i64 0, .int .i64 0, .int .i64 0, .int .i64 0], .int .i64 0], []⟩ 8 (by kernel_rfl) (by kernel_rfl) (by kernel_rfl) (by kernel_rfl)) ?_
  intro W base args ds gs before hval hW _ _
  exact y9k (elT := elTT) (f := Try.f5) (ks := [.el 14, .el 19, .el 0]) y9j (show AKsOK Try.prog elTT [.el 14, .el 19, .el 0] [23, 48, 3] from ⟨⟨rfl, el14_ok⟩, ⟨rfl, el19_ok⟩, ⟨rfl, el_int_ok⟩, trivial⟩) laid_modelNil_said tbool_modelNil_said (by kernel_rfl) (by kernel_rfl) rfl (fun ds h => by
    match ds, h with
    | [_, _, _], _ => rfl) hval hW

/-- 'ModelNil': whatever the input, the law returns true, and every argument reads behind the call as before. No condition. -/
theorem modelNil_said : Rows.ModelNilSaid :=
  OpenClaim.holds_of_wide 5 Try.f5 rfl rfl rfl rfl rfl rfl rfl ⟨rfl, rfl, rfl, rfl, rfl⟩ rfl rfl rfl rfl rfl (by kernel_rfl) (by kernel_rfl) (by kernel_rfl)
    (of_decide_eq_true (by kernel_rfl)) (by unfold Func.isWrapper; first | (rw [if_pos (by decide +kernel)]; kernel_rfl) | (rw [if_neg (by decide +kernel)]; exact ⟨rfl, rfl⟩))
    (fun os started H enc _ => modelNil_said_lifted os started H enc)

#print axioms modelNil_said
end Go.Proofs.Ytomfeogahjiehaa.Laws20
