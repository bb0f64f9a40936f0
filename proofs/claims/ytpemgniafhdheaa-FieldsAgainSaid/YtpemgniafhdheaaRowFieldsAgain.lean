/-
  Proved: posthornlaw06.FieldsAgain returns true for every input, and the input reads afterwards as it read before.
  Conditions: none beyond the row's own.
-/
import Derived.Test.YtpemgniafhdheaaA2
import Derived.Test.YtpemgniafhdheaaA6
import Derived.Test.YtpemgniafhdheaaB1
import Derived.Test.YtpemgniafhdheaaRows
namespace Go.Proofs.Ytpemgniafhdheaa
open Go.ChangeShapes Go.WideShapes Go.ChangeAt Go.RowKit Go.Ab
set_option linter.unusedVariables false

theorem own : ownKnob Try.prog.godebug = none := by kernel_rfl
theorem laidOut : laidOutB Try.prog = true := by kernel_rfl
def tsIn : List TypeId := []
def tsTop : List TypeId := [25]
theorem hin : tsIn.all (okIn Try.prog tsIn) = true := by kernel_rfl
theorem htop : tsTop.all (okTop Try.prog tsIn tsTop) = true := by kernel_rfl
theorem paramsL : Try.f5.params.toList = [25] := rfl

set_option maxHeartbeats 1600000 in
set_option maxRecDepth 100000 in
theorem lifted (os : Os) (started : os.Started) (H : Type) (enc : TypeId × Value → H) :
    ReturnsInHanded {} Try.checked os 5 .any (Rows.fieldsAgainSpec.pre6 enc Try.prog Try.f5 Rows.fieldsAgainRow.domain false) (Rows.fieldsAgainSpec.post enc Try.prog Try.f5 false true false false) := by
  refine returnsInHanded_of_change_shaped (C := Try.checked) own started (by kernel_rfl) Try.func5
    (ChangeSpec.witness6 (enc := enc) (C := Try.checked) false ⟨#[], #[.slice none 0 0], []⟩ 8 (by kernel_rfl) (by kernel_rfl) (by kernel_rfl) (by kernel_rfl)) ?_
  intro W base args ds gs before hval0 hW _ hwt hsh _
  have hval : ∀ (j : Nat) t v, Try.f5.params.toList[j]? = some t → args.toList[j]? = some v → Value.okWide Try.prog W .any base t v := fun j t v a b => hval0 j t v (by simpa using a) (by simpa using b)
  have hW' := hW
  obtain ⟨p, q, hA0, _⟩ := hW
  have hA : DataW.TrodAll enc Try.prog W 0 (fun _ => true) true Try.f5.params.toList args.toList ds p := hA0
  rw [paramsL] at hA hval
  have hwt' := hwt
  rw [paramsL] at hwt'
  obtain ⟨xs, hlen, hvl, hdl, hty, hR⟩ := args_open (g := Go.Ab.Ytpemgniafhdheaa.gm) hin htop _ _ _ _ _ _ (by decide) hA hwt' hval
  match xs, hlen with
  | [x0], _ =>
    obtain ⟨l0, hx0, ht0, hl0⟩ := HasTy.bytes (e := 5) (hty 0 25 x0 rfl rfl).1 (by kernel_rfl) (by kernel_rfl)
    obtain ⟨s', hc⟩ := (show ∃ s', call prog (.fn 153 []) [x0] ⟨[], [], [], 0⟩ = some (.bool true, s') from law_FieldsAgain hx0 hl0 ht0)
    refine (law_calls Go.Ab.Ytpemgniafhdheaa.linked (f' := 5) (f := 153) rfl prog_153 (w := W) (args := args) (Try.laysM185.s1_3 W hsh) (by simpa using hvl) (fun i u q a b => hR i u q (by simpa using a) b) hc).mono ?_
    rintro e W' ⟨rfl, hb⟩
    exact ⟨_, rfl, post_of laidOut (by kernel_rfl) (tb := 4) rfl (by kernel_rfl) rfl (fun ds' h' => by
      match ds', h' with
      | [d0], _ => rfl) hW' (by rw [paramsL]; exact hdl) hb⟩
theorem FieldsAgain_holds : Rows.FieldsAgainSaid :=
  OpenClaim.holds_of_wide 5 Try.f5 rfl rfl rfl rfl rfl rfl rfl ⟨rfl, rfl, rfl, rfl, rfl⟩ rfl rfl rfl rfl rfl (by kernel_rfl) Try.func5 (by kernel_rfl)
    (of_decide_eq_true (by kernel_rfl)) (by unfold Func.isWrapper; first | (rw [if_pos (by decide +kernel)]; kernel_rfl) | (rw [if_neg (by decide +kernel)]; exact ⟨rfl, rfl⟩))
    (fun os started H enc _ => lifted os started H enc)
#print axioms FieldsAgain_holds
end Go.Proofs.Ytpemgniafhdheaa
