/-
  Proved: posthornlaw10.SheetTexts returns true for every input, and the input reads afterwards as it read before.
  Conditions: none beyond the row's own.
-/
import Derived.Test.YtiiedcmkmnfdiaaA2
import Derived.Test.YtiiedcmkmnfdiaaA3
import Derived.Test.YtiiedcmkmnfdiaaB1
import Derived.Test.YtiiedcmkmnfdiaaRows
namespace Go.Proofs.Ytiiedcmkmnfdiaa
open Go.ChangeShapes Go.WideShapes Go.ChangeAt Go.RowKit Go.Ab
set_option linter.unusedVariables false

theorem own : ownKnob Try.prog.godebug = none := by kernel_rfl
theorem laidOut : laidOutB Try.prog = true := by kernel_rfl
def tsIn : List TypeId := []
def tsTop : List TypeId := [9]
theorem hin : tsIn.all (okIn Try.prog tsIn) = true := by kernel_rfl
theorem htop : tsTop.all (okTop Try.prog tsIn tsTop) = true := by kernel_rfl
theorem paramsL : Try.f4.params.toList = [9, 9] := rfl

set_option maxHeartbeats 1600000 in
set_option maxRecDepth 100000 in
theorem lifted (os : Os) (started : os.Started) (H : Type) (enc : TypeId × Value → H) :
    ReturnsInHanded {} Try.checked os 4 .any (Rows.sheetTextsSpec.pre6 enc Try.prog Try.f4 Rows.sheetTextsRow.domain false) (Rows.sheetTextsSpec.post enc Try.prog Try.f4 false true false false) := by
  refine returnsInHanded_of_change_shaped (C := Try.checked) own started (by kernel_rfl) Try.func4
    (ChangeSpec.witness6 (enc := enc) (C := Try.checked) false ⟨#[], #[.string ⟨#[]⟩, .string ⟨#[]⟩], []⟩ 8 (by kernel_rfl) (by kernel_rfl) (by kernel_rfl) (by kernel_rfl)) ?_
  intro W base args ds gs before hval0 hW _ _ hsh _
  have hval : ∀ (j : Nat) t v, Try.f4.params.toList[j]? = some t → args.toList[j]? = some v → Value.okWide Try.prog W .any base t v := fun j t v a b => hval0 j t v (by simpa using a) (by simpa using b)
  have hW' := hW
  obtain ⟨p, q, hA0, _⟩ := hW
  have hA : DataW.TrodAll enc Try.prog W 0 (fun _ => true) true Try.f4.params.toList args.toList ds p := hA0
  rw [paramsL] at hA hval
  obtain ⟨xs, hlen, hvl, hdl, hty, hR⟩ := args_open (g := Go.Ab.Ytiiedcmkmnfdiaa.gm) hin htop _ _ _ _ (by decide) hA hval
  match xs, hlen with
  | [x0, x1], _ =>
    obtain ⟨s0, rfl, hs0⟩ := HasTy.str' (hty 0 9 x0 rfl rfl).1 (by kernel_rfl)
    obtain ⟨s1, rfl, hs1⟩ := HasTy.str' (hty 1 9 x1 rfl rfl).1 (by kernel_rfl)
    obtain ⟨s', hc⟩ := law_SheetTexts (s := s0) (t := s1)
    refine (law_calls Go.Ab.Ytiiedcmkmnfdiaa.linked (f' := 4) (f := 46) rfl prog_46 (w := W) (args := args) (Try.laysM219.s1_3 W hsh) (by simpa using hvl) (fun i u q a b => hR i u q (by simpa using a) b) hc).mono ?_
    rintro e W' ⟨rfl, hb⟩
    exact ⟨_, rfl, post_of laidOut (by kernel_rfl) (tb := 4) rfl (by kernel_rfl) rfl (fun ds' h' => by
      match ds', h' with
      | [d0, d1], _ => rfl) hW' (by rw [paramsL]; exact hdl) hb⟩
theorem SheetTexts_holds : Rows.SheetTextsSaid :=
  OpenClaim.holds_of_wide 4 Try.f4 rfl rfl rfl rfl rfl rfl rfl ⟨rfl, rfl, rfl, rfl, rfl⟩ rfl rfl rfl rfl rfl (by kernel_rfl) Try.func4 (by kernel_rfl)
    (of_decide_eq_true (by kernel_rfl)) (by unfold Func.isWrapper; first | (rw [if_pos (by decide +kernel)]; kernel_rfl) | (rw [if_neg (by decide +kernel)]; exact ⟨rfl, rfl⟩))
    (fun os started H enc _ => lifted os started H enc)
#print axioms SheetTexts_holds
end Go.Proofs.Ytiiedcmkmnfdiaa
