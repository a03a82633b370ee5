/- The row of 'ExtentBack': whatever the input, the law returns true, and every argument reads behind the call as before. No condition. -/
import Derived.Test.YtgogaoelkdjajaaK09bE
import Derived.Test.YtgogaoelkdjajaaRows
namespace Go.Proofs.Ytgogaoelkdjajaa.Laws09
open Go.ChangeShapes Go.WideShapes Go.ChangeAt Go.RowKit Go.Rx

theorem own_extentBack_said : ownKnob Try.prog.godebug = none := by kernel_rfl
theorem laid_extentBack_said : laidOutB Try.prog = true := by kernel_rfl
theorem tbool_extentBack_said : Try.prog.underlying 4 = some .bool := by kernel_rfl
noncomputable def fs14 : Array Field := match Try.prog.underlying (elTT 14) with | some (.struct fs) => fs | _ => #[]
theorem el14_ok : ElOK Try.prog elTT 14 := elOK_ints (m := 10) (fs := fs14) (by kernel_rfl) (by kernel_rfl) (by kernel_rfl)
noncomputable def fs7 : Array Field := match Try.prog.underlying (elTT 7) with | some (.struct fs) => fs | _ => #[]
theorem el7_ok : ElOK Try.prog elTT 7 := elOK_ints (m := 3) (fs := fs7) (by kernel_rfl) (by kernel_rfl) (by kernel_rfl)
theorem el_int_ok : ElOK Try.prog elTT 0 := elOK_int (by kernel_rfl) (by kernel_rfl)

set_option maxRecDepth 100000 in
theorem extentBack_said_lifted (os : Os) (started : os.Started) (H : Type) (enc : TypeId × Value → H) :
    ReturnsInHanded {} Try.checked os 12 .any (Rows.extentBackSpec.pre6 enc Try.prog Try.f12 Rows.extentBackRow.domain false) (Rows.extentBackSpec.post enc Try.prog Try.f12 false true false false) := by
  refine returnsInHanded_of_change (C := Try.checked) own_extentBack_said started (by kernel_rfl) (by kernel_rfl)
    (ChangeSpec.witness6 (enc := enc) (C := Try.checked) false ⟨#[], #[.agg #[.int .i64 0, .int .i64 0, .int .i64 0, .int .i64 0, .int .i64 0, .int .i64 0, .int .i64 0, .int .i64 0, .int .i64 0, .int .i64 0, .int .i64 0], .slice none 0 0, .int .i64 0, .int .i64 0, .int .i64 0], []⟩ 8 (by kernel_rfl) (by kernel_rfl) (by kernel_rfl) (by kernel_rfl)) ?_
  intro W base args ds gs before hval hW _ _
  exact law_calls (elT := elTT) (f := Try.f12) (ks := [.el 14, .row 7, .el 0, .el 0, .el 0]) law_law09_ExtentBack (show AKsOK Try.prog elTT [.el 14, .row 7, .el 0, .el 0, .el 0] [23, 77, 3, 3, 3] from ⟨⟨rfl, el14_ok⟩, ⟨by kernel_rfl, el7_ok⟩, ⟨rfl, el_int_ok⟩, ⟨rfl, el_int_ok⟩, ⟨rfl, el_int_ok⟩, trivial⟩) laid_extentBack_said tbool_extentBack_said (by kernel_rfl) (by kernel_rfl) rfl (fun ds h => by
    match ds, h with
    | [_, _, _, _, _], _ => rfl) hval hW

/-- 'ExtentBack': whatever the input, the law returns true, and every argument reads behind the call as before. No condition. -/
theorem extentBack_said : Rows.ExtentBackSaid :=
  OpenClaim.holds_of_wide 12 Try.f12 rfl rfl rfl rfl rfl rfl rfl ⟨rfl, rfl, rfl, rfl, rfl⟩ rfl rfl rfl rfl rfl (by kernel_rfl) (by kernel_rfl) (by kernel_rfl)
    (of_decide_eq_true (by kernel_rfl)) (by unfold Func.isWrapper; first | (rw [if_pos (by decide +kernel)]; kernel_rfl) | (rw [if_neg (by decide +kernel)]; exact ⟨rfl, rfl⟩))
    (fun os started H enc _ => extentBack_said_lifted os started H enc)

#print axioms extentBack_said
end Go.Proofs.Ytgogaoelkdjajaa.Laws09
