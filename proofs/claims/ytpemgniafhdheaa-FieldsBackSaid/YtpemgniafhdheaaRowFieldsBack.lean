/-
  Proved: posthornlaw06.FieldsBack returns true for every input, and the input reads afterwards as it read before.
  Conditions: none beyond the row's own.
-/
import Derived.Test.YtpemgniafhdheaaA2
import Derived.Test.YtpemgniafhdheaaA6
import Derived.Test.YtpemgniafhdheaaB1
import Derived.Test.YtpemgniafhdheaaRows
namespace Go.Proofs.Ytpemgniafhdheaa
open Go.ChangeShapes Go.WideShapes Go.ChangeAt Go.RowKit Go.Ab
set_option linter.unusedVariables false

theorem own : ownKnob Try.prog.godebug = none := by kernel_rfl
theorem laidOut : laidOutB Try.prog = true := by kernel_rfl
def tsIn : List TypeId := [44, 9]
def tsTop : List TypeId := [22, 25]
theorem hin : tsIn.all (okIn Try.prog tsIn) = true := by kernel_rfl
theorem htop : tsTop.all (okTop Try.prog tsIn tsTop) = true := by kernel_rfl
theorem paramsL : Try.f4.params.toList = [22, 25] := rfl

set_option maxHeartbeats 1600000 in
set_option maxRecDepth 100000 in
theorem lifted (os : Os) (started : os.Started) (H : Type) (enc : TypeId × Value → H) :
    ReturnsInHanded {} Try.checked os 4 .any (Rows.fieldsBackSpec.pre6 enc Try.prog Try.f4 Rows.fieldsBackRow.domain false) (Rows.fieldsBackSpec.post enc Try.prog Try.f4 false true false false) := by
  refine returnsInHanded_of_change_shaped (C := Try.checked) own started (by kernel_rfl) Try.func4
    (ChangeSpec.witness6 (enc := enc) (C := Try.checked) false ⟨#[], #[.slice none 0 0, .slice none 0 0], []⟩ 8 (by kernel_rfl) (by kernel_rfl) (by kernel_rfl) (by kernel_rfl)) ?_
  intro W base args ds gs before hval0 hW _ hwt hsh _
  have hval : ∀ (j : Nat) t v, Try.f4.params.toList[j]? = some t → args.toList[j]? = some v → Value.okWide Try.prog W .any base t v := fun j t v a b => hval0 j t v (by simpa using a) (by simpa using b)
  have hW' := hW
  obtain ⟨p, q, hA0, _⟩ := hW
  have hA : DataW.TrodAll enc Try.prog W 0 (fun _ => true) true Try.f4.params.toList args.toList ds p := hA0
  rw [paramsL] at hA hval
  have hwt' := hwt
  rw [paramsL] at hwt'
  obtain ⟨xs, hlen, hvl, hdl, hty, hR⟩ := args_open (g := Go.Ab.Ytpemgniafhdheaa.gm) hin htop _ _ _ _ _ _ (by decide) hA hwt' hval
  match xs, hlen with
  | [x0, x1], _ =>
    have hy0 := (hty 0 22 x0 rfl rfl).1
    obtain ⟨l1, hx1, ht1, hl1⟩ := HasTy.bytes (e := 5) (hty 1 25 x1 rfl rfl).1 (by kernel_rfl) (by kernel_rfl)
    obtain ⟨s', hc⟩ := (show ∃ s', call prog (.fn 152 []) [x0, x1] ⟨[], [], [], 0⟩ = some (.bool true, s') from by obtain ⟨fs, hfs, hm, hl⟩ := HasTy.flds (e := 44) hy0 (by kernel_rfl) (by kernel_rfl) (by kernel_rfl); exact law_FieldsBack hfs hm hl hx1 hl1)
    refine (law_calls Go.Ab.Ytpemgniafhdheaa.linked (f' := 4) (f := 152) rfl prog_152 (w := W) (args := args) (Try.laysM185.s1_3 W hsh) (by simpa using hvl) (fun i u q a b => hR i u q (by simpa using a) b) hc).mono ?_
    rintro e W' ⟨rfl, hb⟩
    exact ⟨_, rfl, post_of laidOut (by kernel_rfl) (tb := 4) rfl (by kernel_rfl) rfl (fun ds' h' => by
      match ds', h' with
      | [d0, d1], _ => rfl) hW' (by rw [paramsL]; exact hdl) hb⟩
theorem FieldsBack_holds : Rows.FieldsBackSaid :=
  OpenClaim.holds_of_wide 4 Try.f4 rfl rfl rfl rfl rfl rfl rfl ⟨rfl, rfl, rfl, rfl, rfl⟩ rfl rfl rfl rfl rfl (by kernel_rfl) Try.func4 (by kernel_rfl)
    (of_decide_eq_true (by kernel_rfl)) (by unfold Func.isWrapper; first | (rw [if_pos (by decide +kernel)]; kernel_rfl) | (rw [if_neg (by decide +kernel)]; exact ⟨rfl, rfl⟩))
    (fun os started H enc _ => lifted os started H enc)
#print axioms FieldsBack_holds
end Go.Proofs.Ytpemgniafhdheaa
