/- The row of 'ExtentPlays': whatever the input, the law returns true, and every argument reads behind the call as before. No condition. -/
import Derived.Test.YtgogaoelkdjajaaK09pE
import Derived.Test.YtgogaoelkdjajaaRows
namespace Go.Proofs.Ytgogaoelkdjajaa.Laws09
open Go.ChangeShapes Go.WideShapes Go.ChangeAt Go.RowKit Go.Rx

theorem own_extentPlays_said : ownKnob Try.prog.godebug = none := by kernel_rfl
theorem laid_extentPlays_said : laidOutB Try.prog = true := by kernel_rfl
theorem tbool_extentPlays_said : Try.prog.underlying 4 = some .bool := by kernel_rfl
noncomputable def fs14 : Array Field := match Try.prog.underlying (elTT 14) with | some (.struct fs) => fs | _ => #[]
theorem el14_ok : ElOK Try.prog elTT 14 := elOK_ints (m := 10) (fs := fs14) (by kernel_rfl) (by kernel_rfl) (by kernel_rfl)
noncomputable def fs7 : Array Field := match Try.prog.underlying (elTT 7) with | some (.struct fs) => fs | _ => #[]
theorem el7_ok : ElOK Try.prog elTT 7 := elOK_ints (m := 3) (fs := fs7) (by kernel_rfl) (by kernel_rfl) (by kernel_rfl)

set_option maxRecDepth 100000 in
theorem extentPlays_said_lifted (os : Os) (started : os.Started) (H : Type) (enc : TypeId × Value → H) :
    ReturnsInHanded {} Try.checked os 10 .any (Rows.extentPlaysSpec.pre6 enc Try.prog Try.f10 Rows.extentPlaysRow.domain false) (Rows.extentPlaysSpec.post enc Try.prog Try.f10 false true false false) := by
  refine returnsInHanded_of_change (C := Try.checked) own_extentPlays_said started (by kernel_rfl) (by kernel_rfl)
    (ChangeSpec.witness6 (enc := enc) (C := Try.checked) false ⟨#[], #[.agg #[.int .i64 0, .int .i64 0, .int .i64 0, .int .i64 0, .int .i64 0, .int .i64 0, .int .i64 0, .int .i64 0, .int .i64 0, .int .i64 0, .int .i64 0], .slice none 0 0], []⟩ 8 (by kernel_rfl) (by kernel_rfl) (by kernel_rfl) (by kernel_rfl)) ?_
  intro W base args ds gs before hval hW _ _
  exact law_calls (elT := elTT) (f := Try.f10) (ks := [.el 14, .row 7]) law_law09_ExtentPlays (show AKsOK Try.prog elTT [.el 14, .row 7] [23, 77] from ⟨⟨rfl, el14_ok⟩, ⟨by kernel_rfl, el7_ok⟩, trivial⟩) laid_extentPlays_said tbool_extentPlays_said (by kernel_rfl) (by kernel_rfl) rfl (fun ds h => by
    match ds, h with
    | [_, _], _ => rfl) hval hW

/-- 'ExtentPlays': whatever the input, the law returns true, and every argument reads behind the call as before. No condition. -/
theorem extentPlays_said : Rows.ExtentPlaysSaid :=
  OpenClaim.holds_of_wide 10 Try.f10 rfl rfl rfl rfl rfl rfl rfl ⟨rfl, rfl, rfl, rfl, rfl⟩ rfl rfl rfl rfl rfl (by kernel_rfl) (by kernel_rfl) (by kernel_rfl)
    (of_decide_eq_true (by kernel_rfl)) (by unfold Func.isWrapper; first | (rw [if_pos (by decide +kernel)]; kernel_rfl) | (rw [if_neg (by decide +kernel)]; exact ⟨rfl, rfl⟩))
    (fun os started H enc _ => extentPlays_said_lifted os started H enc)

#print axioms extentPlays_said
end Go.Proofs.Ytgogaoelkdjajaa.Laws09
