/- The row of 'PlistAgree': whatever the input, the law returns true, and every argument reads behind the call as before. No condition. -/
import Derived.Test.YtgogaoelkdjajaaK10aF
import Derived.Test.YtgogaoelkdjajaaRows
namespace Go.Proofs.Ytgogaoelkdjajaa.Laws10
open Go.ChangeShapes Go.WideShapes Go.ChangeAt Go.RowKit Go.Rx

theorem own_plistAgree_said : ownKnob Try.prog.godebug = none := by kernel_rfl
theorem laid_plistAgree_said : laidOutB Try.prog = true := by kernel_rfl
theorem tbool_plistAgree_said : Try.prog.underlying 4 = some .bool := by kernel_rfl
noncomputable def fs14 : Array Field := match Try.prog.underlying (elTT 14) with | some (.struct fs) => fs | _ => #[]
theorem el14_ok : ElOK Try.prog elTT 14 := elOK_ints (m := 10) (fs := fs14) (by kernel_rfl) (by kernel_rfl) (by kernel_rfl)
noncomputable def fs39 : Array Field := match Try.prog.underlying (elTT 39) with | some (.struct fs) => fs | _ => #[]
theorem el39_ok : ElOK Try.prog elTT 39 := elOK_ints (m := 35) (fs := fs39) (by kernel_rfl) (by kernel_rfl) (by kernel_rfl)
theorem el_int_ok : ElOK Try.prog elTT 0 := elOK_int (by kernel_rfl) (by kernel_rfl)

set_option maxRecDepth 100000 in
theorem plistAgree_said_lifted (os : Os) (started : os.Started) (H : Type) (enc : TypeId × Value → H) :
    ReturnsInHanded {} Try.checked os 6 .any (Rows.plistAgreeSpec.pre6 enc Try.prog Try.f6 Rows.plistAgreeRow.domain false) (Rows.plistAgreeSpec.post enc Try.prog Try.f6 false true false false) := by
  refine returnsInHanded_of_change (C := Try.checked) own_plistAgree_said started (by kernel_rfl) (by kernel_rfl)
    (ChangeSpec.witness6 (enc := enc) (C := Try.checked) false ⟨#[], #[.agg #[.int .i64 0, .int .i64 0, .int .i64 0, .int .i64 0, .int .i64 0, .int .i64 0, .int .i64 0, .int .i64 0, .int .i64 0, .int .i64 0, .int .i64 0], .slice none 0 0, .int .i64 0, .int .i64 0], []⟩ 8 (by kernel_rfl) (by kernel_rfl) (by kernel_rfl) (by kernel_rfl)) ?_
  intro W base args ds gs before hval hW _ _
  exact law_calls (elT := elTT) (f := Try.f6) (ks := [.el 14, .row 39, .el 0, .el 0]) law_law10_PlistAgree (show AKsOK Try.prog elTT [.el 14, .row 39, .el 0, .el 0] [23, 58, 3, 3] from ⟨⟨rfl, el14_ok⟩, ⟨by kernel_rfl, el39_ok⟩, ⟨rfl, el_int_ok⟩, ⟨rfl, el_int_ok⟩, trivial⟩) laid_plistAgree_said tbool_plistAgree_said (by kernel_rfl) (by kernel_rfl) rfl (fun ds h => by
    match ds, h with
    | [_, _, _, _], _ => rfl) hval hW

/-- 'PlistAgree': whatever the input, the law returns true, and every argument reads behind the call as before. No condition. -/
theorem plistAgree_said : Rows.PlistAgreeSaid :=
  OpenClaim.holds_of_wide 6 Try.f6 rfl rfl rfl rfl rfl rfl rfl ⟨rfl, rfl, rfl, rfl, rfl⟩ rfl rfl rfl rfl rfl (by kernel_rfl) (by kernel_rfl) (by kernel_rfl)
    (of_decide_eq_true (by kernel_rfl)) (by unfold Func.isWrapper; first | (rw [if_pos (by decide +kernel)]; kernel_rfl) | (rw [if_neg (by decide +kernel)]; exact ⟨rfl, rfl⟩))
    (fun os started H enc _ => plistAgree_said_lifted os started H enc)

#print axioms plistAgree_said
end Go.Proofs.Ytgogaoelkdjajaa.Laws10
