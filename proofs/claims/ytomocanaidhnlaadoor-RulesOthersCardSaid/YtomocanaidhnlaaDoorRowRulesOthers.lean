/-
  Proved: posthornlaw14.RulesOthers returns true for every input, and the input reads afterwards as it read before.
  Conditions: none beyond the row's own.
-/
import Derived.Test.YtomocanaidhnlaaDoorA3
import Derived.Test.YtomocanaidhnlaaDoorA4
import Derived.Test.YtomocanaidhnlaaDoorB1
import Derived.Test.YtomocanaidhnlaaDoorRows
import Derived.Test.YtomocanaidhnlaaDoorCards
import Derived.Test.YtomocanaidhnlaaDoorTie
import Derived.SevenTiedAt
set_option linter.unusedVariables false
set_option linter.unusedSimpArgs false
namespace Go.Proofs.YtomocanaidhnlaaDoor
open Go.ChangeShapes Go.WideShapes Go.ChangeAt Go.RowKit Go.Ab

theorem own : ownKnob Tryd.prog.godebug = none := by kernel_rfl
theorem laidOut : laidOutB Tryd.prog = true := by kernel_rfl
def tsIn : List TypeId := [38, 9]
def tsTop : List TypeId := [24, 9, 3, 2, 22]
theorem hin : tsIn.all (okIn Tryd.prog tsIn) = true := by kernel_rfl
theorem htop : tsTop.all (okTop Tryd.prog tsIn tsTop) = true := by kernel_rfl
theorem paramsL : Tryd.f7.params.toList = [24, 9] := rfl

set_option maxHeartbeats 1600000 in
set_option maxRecDepth 100000 in
theorem lifted (os : Os) (started : os.Started) (H : Type) (enc : TypeId × Value → H) :
    ReturnsInHanded {} Tryd.checked os 7 .any (fun w args => (Rows.rulesOthersSpec.pre enc Tryd.prog Tryd.f7 Rows.rulesOthersRow.domain false w args ∧ laidMetH Tryd.prog Rows.rulesOthersRow.laid w) ∧ sizedMet enc Tryd.prog Tryd.f7 (OpenSpec.ofChange Rows.rulesOthersSpec) false w args) (Rows.rulesOthersSpec.post enc Tryd.prog Tryd.f7 false true false false) := by
  refine returns_laid_shaped (C := Tryd.checked) (fun w => laidMetH Tryd.prog Rows.rulesOthersRow.laid w) (fun _ _ hh h => h.of_heap hh) own started (by kernel_rfl) Tryd.func7
    (ChangeSpec.witness_shaped (enc := enc) (C := Tryd.checked) (os := os) (X := fun w _ => laidMetH Tryd.prog Rows.rulesOthersRow.laid w) false (World.laidAll Tryd.prog os Rows.rulesOthersRow.laid) #[.agg #[.string ⟨#[]⟩, .string ⟨#[]⟩, .int .i64 0, .int .i64 0, .int .i64 0, .string ⟨#[]⟩, .slice none 0 0, .int .i64 0, .int .i64 0, .string ⟨#[]⟩, .string ⟨#[]⟩], .string ⟨#[]⟩] 8 (World.laidAll_os _ _ _)
      (World.shaped_of_ZipB (by kernel_rfl) (by kernel_rfl)) (by kernel_rfl) (by kernel_rfl) (by kernel_rfl)
      (by rw [MakeChecks.laidMetH_plain _ _ _ (by kernel_rfl)]; exact laidMet_laidAll _ (by kernel_rfl) (by kernel_rfl))) ?_
  intro W base args ds gs before hval0 hW _ hwt hsh _
  have hval : ∀ (j : Nat) t v, Tryd.f7.params.toList[j]? = some t → args.toList[j]? = some v → Value.okWide Tryd.prog W .any base t v := fun j t v a b => hval0 j t v (by simpa using a) (by simpa using b)
  have hW' := hW
  obtain ⟨p, q, hA0, _⟩ := hW
  have hA : DataW.TrodAll enc Tryd.prog W 0 (fun _ => true) true Tryd.f7.params.toList args.toList ds p := hA0
  rw [paramsL] at hA hval
  have hwt' := hwt
  rw [paramsL] at hwt'
  obtain ⟨xs, hlen, hvl, hdl, hty, hR⟩ := args_open (g := Go.Ab.YtomocanaidhnlaaDoor.gm) hin htop _ _ _ _ _ _ (by decide) hA hwt' hval
  match xs, hlen with
  | [x0, x1], _ =>
    have hy0 := (hty 0 24 x0 rfl rfl).1
    obtain ⟨s1, rfl, hs1⟩ := HasTy.str' (hty 1 9 x1 rfl rfl).1 (by kernel_rfl)
    obtain ⟨s', hc⟩ := arg_RulesOthers (el := 38) hy0 (by kernel_rfl) hs1
    refine (law_calls Go.Ab.YtomocanaidhnlaaDoor.linked (f' := 7) (f := 187) rfl prog_187 (w := W) (args := args) (Tryd.laysM219.s1_3 W hsh) (by simpa using hvl) (fun i u q a b => hR i u q (by simpa using a) b) hc).mono ?_
    rintro e W' ⟨rfl, hb⟩
    exact ⟨_, rfl, post_of laidOut (by kernel_rfl) (tb := 4) rfl (by kernel_rfl) rfl (fun ds' h' => by
      match ds', h' with
      | [d0, d1], _ => rfl) hW' (by rw [paramsL]; exact hdl) hb⟩
theorem RulesOthers_row : Rows.RulesOthersSaid :=
  OpenClaim.holds_of_wide 7 Tryd.f7 rfl rfl rfl rfl rfl rfl rfl ⟨rfl, rfl, rfl, rfl, rfl⟩ rfl rfl rfl rfl rfl (by kernel_rfl) Tryd.func7 (by kernel_rfl)
    (of_decide_eq_true (by kernel_rfl)) (by unfold Func.isWrapper; first | (rw [if_pos (by decide +kernel)]; kernel_rfl) | (rw [if_neg (by decide +kernel)]; exact ⟨rfl, rfl⟩))
    (fun os started H enc _ => lifted os started H enc)
theorem RulesOthers_holds : Rows.RulesOthersCardSaid :=
  Claim7.holds_tied_plain_at .later [] [.data, .pinned] true (true, "a4ec413643127ed1876828ecb6aec6dafc05d38945a85b7de532e375cb665185") false RulesOthers_row (fun _ h => by cases h) (by kernel_rfl) (fun _ h => by cases h) rulesOthers_row_tie rfl ⟨rfl, rfl⟩ (by kernel_rfl) rfl
    (fun f fn hf hfn => by
      obtain rfl : f = 7 := Option.some.inj ((show Tryd.prog.funcNamed "posthorn/posthornlaw14.RulesOthers" = some 7 by kernel_rfl).symm.trans hf) |>.symm
      obtain rfl : fn = Tryd.f7 := (Option.some.inj (Tryd.func7.symm.trans hfn)).symm
      exact ⟨by kernel_rfl, fun j t ht => by
        have hm : t ∈ ([24, 9] : List TypeId) := by
          rw [← paramsL]; exact Array.mem_def.1 (Array.mem_of_getElem? ht)
        have hall : (([24, 9] : List TypeId).all fun u => !Tryd.prog.wantsStandIn u) = true := by kernel_rfl
        exact (show Tryd.prog.wantsStandIn t = false by simpa using List.all_eq_true.1 hall t hm)⟩)
    (by kernel_rfl)
#print axioms RulesOthers_holds
end Go.Proofs.YtomocanaidhnlaaDoor
