/- The row of 'PlistEach': whatever the input, the law returns true, and every argument reads behind the call as before. No condition. -/
import Derived.Test.YtgogaoelkdjajaaK10eF
import Derived.Test.YtgogaoelkdjajaaRows
namespace Go.Proofs.Ytgogaoelkdjajaa.Laws10
open Go.ChangeShapes Go.WideShapes Go.ChangeAt Go.RowKit Go.Rx

theorem own_plistEach_said : ownKnob Try.prog.godebug = none := by kernel_rfl
theorem laid_plistEach_said : laidOutB Try.prog = true := by kernel_rfl
theorem tbool_plistEach_said : Try.prog.underlying 4 = some .bool := by kernel_rfl
noncomputable def fs14 : Array Field := match Try.prog.underlying (elTT 14) with | some (.struct fs) => fs | _ => #[]
theorem el14_ok : ElOK Try.prog elTT 14 := elOK_ints (m := 10) (fs := fs14) (by kernel_rfl) (by kernel_rfl) (by kernel_rfl)
noncomputable def fs39 : Array Field := match Try.prog.underlying (elTT 39) with | some (.struct fs) => fs | _ => #[]
theorem el39_ok : ElOK Try.prog elTT 39 := elOK_ints (m := 35) (fs := fs39) (by kernel_rfl) (by kernel_rfl) (by kernel_rfl)

set_option maxRecDepth 100000 in
theorem plistEach_said_lifted (os : Os) (started : os.Started) (H : Type) (enc : TypeId × Value → H) :
    ReturnsInHanded {} Try.checked os 9 .any (Rows.plistEachSpec.pre6 enc Try.prog Try.f9 Rows.plistEachRow.domain false) (Rows.plistEachSpec.post enc Try.prog Try.f9 false true false false) := by
  refine returnsInHanded_of_change (C := Try.checked) own_plistEach_said started (by kernel_rfl) (by kernel_rfl)
    (ChangeSpec.witness6 (enc := enc) (C := Try.checked) false ⟨#[], #[.agg #[.int .i64 0, .int .i64 0, .int .i64 0, .int .i64 0, .int .i64 0, .int .i64 0, .int .i64 0, .int .i64 0, .int .i64 0, .int .i64 0, .int .i64 0], .slice none 0 0], []⟩ 8 (by kernel_rfl) (by kernel_rfl) (by kernel_rfl) (by kernel_rfl)) ?_
  intro W base args ds gs before hval hW _ _
  exact law_calls (elT := elTT) (f := Try.f9) (ks := [.el 14, .row 39]) law_law10_PlistEach (show AKsOK Try.prog elTT [.el 14, .row 39] [23, 58] from ⟨⟨rfl, el14_ok⟩, ⟨by kernel_rfl, el39_ok⟩, trivial⟩) laid_plistEach_said tbool_plistEach_said (by kernel_rfl) (by kernel_rfl) rfl (fun ds h => by
    match ds, h with
    | [_, _], _ => rfl) hval hW

/-- 'PlistEach': whatever the input, the law returns true, and every argument reads behind the call as before. No condition. -/
theorem plistEach_said : Rows.PlistEachSaid :=
  OpenClaim.holds_of_wide 9 Try.f9 rfl rfl rfl rfl rfl rfl rfl ⟨rfl, rfl, rfl, rfl, rfl⟩ rfl rfl rfl rfl rfl (by kernel_rfl) (by kernel_rfl) (by kernel_rfl)
    (of_decide_eq_true (by kernel_rfl)) (by unfold Func.isWrapper; first | (rw [if_pos (by decide +kernel)]; kernel_rfl) | (rw [if_neg (by decide +kernel)]; exact ⟨rfl, rfl⟩))
    (fun os started H enc _ => plistEach_said_lifted os started H enc)

#print axioms plistEach_said
end Go.Proofs.Ytgogaoelkdjajaa.Laws10
