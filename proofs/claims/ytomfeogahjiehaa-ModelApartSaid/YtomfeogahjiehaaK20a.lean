/- The row of 'ModelApart': whatever the input, the law returns true, and every argument reads behind the call as before. No condition. -/
import Derived.Test.YtomfeogahjiehaaK20aD
import Derived.Test.YtomfeogahjiehaaRows
namespace Go.Proofs.Ytomfeogahjiehaa.Laws20
open Go.ChangeShapes Go.WideShapes Go.ChangeAt Go.RowKit Go.Rx

theorem own_modelApart_said : ownKnob Try.prog.godebug = none := by kernel_rfl
theorem laid_modelApart_said : laidOutB Try.prog = true := by kernel_rfl
theorem tbool_modelApart_said : Try.prog.underlying 4 = some .bool := by kernel_rfl
noncomputable def fs14 : Array Field := match Try.prog.underlying (elTT 14) with | some (.struct fs) => fs | _ => #[]
theorem el14_ok : ElOK Try.prog elTT 14 := elOK_ints (m := 10) (fs := fs14) (by kernel_rfl) (by kernel_rfl) (by kernel_rfl)
noncomputable def fs19 : Array Field := match Try.prog.underlying (elTT 19) with | some (.struct fs) => fs | _ => #[]
theorem el19_ok : ElOK Try.prog elTT 19 := elOK_ints (m := 15) (fs := fs19) (by kernel_rfl) (by kernel_rfl) (by kernel_rfl)

set_option maxRecDepth 100000 in
theorem modelApart_said_lifted (os : Os) (started : os.Started) (H : Type) (enc : TypeId × Value → H) :
    ReturnsInHanded {} Try.checked os 4 .any (Rows.modelApartSpec.pre6 enc Try.prog Try.f4 Rows.modelApartRow.domain false) (Rows.modelApartSpec.post enc Try.prog Try.f4 false true false false) := by
  refine returnsInHanded_of_change (C := Try.checked) own_modelApart_said started (by kernel_rfl) (by kernel_rfl)
    (ChangeSpec.witness6 (enc := enc) (C := Try.checked) false ⟨#[], #[.agg #[.int .i64 0, .int .i64 0, .int .i64 0, .int .i64 0, .int .i64 0, .int .i64 0, .int .i64 0, .int .i64 0, .int .i64 0, .int .i64 0, .int .i64 0], .slice none 0 0], []⟩ 8 (by kernel_rfl) (by kernel_rfl) (by kernel_rfl) (by kernel_rfl)) ?_
  intro W base args ds gs before hval hW _ _
  exact y88 (elT := elTT) (f := Try.f4) (ks := [.el 14, .row 19]) y9g (show AKsOK Try.prog elTT [.el 14, .row 19] [23, 24] from ⟨⟨rfl, el14_ok⟩, ⟨by kernel_rfl, el19_ok⟩, trivial⟩) laid_modelApart_said tbool_modelApart_said (by kernel_rfl) (by kernel_rfl) rfl (fun ds h => by
    match ds, h with
    | [_, _], _ => rfl) hval hW

/-- 'ModelApart': whatever the input, the law returns true, and every argument reads behind the call as before. No condition. -/
theorem modelApart_said : Rows.ModelApartSaid :=
  OpenClaim.holds_of_wide 4 Try.f4 rfl rfl rfl rfl rfl rfl rfl ⟨rfl, rfl, rfl, rfl, rfl⟩ rfl rfl rfl rfl rfl (by kernel_rfl) (by kernel_rfl) (by kernel_rfl)
    (of_decide_eq_true (by kernel_rfl)) (by unfold Func.isWrapper; first | (rw [if_pos (by decide +kernel)]; kernel_rfl) | (rw [if_neg (by decide +kernel)]; exact ⟨rfl, rfl⟩))
    (fun os started H enc _ => modelApart_said_lifted os started H enc)

#print axioms modelApart_said
end Go.Proofs.Ytomfeogahjiehaa.Laws20
