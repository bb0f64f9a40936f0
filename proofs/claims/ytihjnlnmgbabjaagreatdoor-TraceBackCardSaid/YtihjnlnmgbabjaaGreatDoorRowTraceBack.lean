/-
  Proved: posthornlaw25.TraceBack returns true for every input, and the input reads afterwards as it read before.
  Conditions: none beyond the row's own.
-/
import Derived.Test.YtihjnlnmgbabjaaGreatDoorA3
import Derived.Test.YtihjnlnmgbabjaaGreatDoorA5
import Derived.Test.YtihjnlnmgbabjaaGreatDoorB1
import Derived.Test.YtihjnlnmgbabjaaGreatDoorRows
import Derived.Test.YtihjnlnmgbabjaaGreatDoorCards
import Derived.Test.YtihjnlnmgbabjaaGreatDoorTie
import Derived.SevenTiedAt
set_option linter.unusedVariables false
set_option linter.unusedSimpArgs false
namespace Go.Proofs.YtihjnlnmgbabjaaGreatDoor
open Go.ChangeShapes Go.WideShapes Go.ChangeAt Go.RowKit Go.Ab

theorem own : ownKnob Tryz.prog.godebug = none := by kernel_rfl
theorem laidOut : laidOutB Tryz.prog = true := by kernel_rfl
def tsIn : List TypeId := []
def tsTop : List TypeId := [39, 9, 2]
theorem hin : tsIn.all (okIn Tryz.prog tsIn) = true := by kernel_rfl
theorem htop : tsTop.all (okTop Tryz.prog tsIn tsTop) = true := by kernel_rfl
theorem paramsL : Tryz.f4.params.toList = [39, 9] := rfl

set_option maxHeartbeats 1600000 in
set_option maxRecDepth 100000 in
theorem lifted (os : Os) (started : os.Started) (H : Type) (enc : TypeId × Value → H) :
    ReturnsInHanded {} Tryz.checked os 4 .any (fun w args => (Rows.traceBackSpec.pre enc Tryz.prog Tryz.f4 Rows.traceBackRow.domain false w args ∧ laidMetH Tryz.prog Rows.traceBackRow.laid w) ∧ sizedMet enc Tryz.prog Tryz.f4 (OpenSpec.ofChange Rows.traceBackSpec) false w args) (Rows.traceBackSpec.post enc Tryz.prog Tryz.f4 false true false false) := by
  refine returns_laid_shaped (C := Tryz.checked) (fun w => laidMetH Tryz.prog Rows.traceBackRow.laid w) (fun _ _ hh h => h.of_heap hh) own started (by kernel_rfl) Tryz.func4
    (ChangeSpec.witness_shaped (enc := enc) (C := Tryz.checked) (os := os) (X := fun w _ => laidMetH Tryz.prog Rows.traceBackRow.laid w) false (World.laidAll Tryz.prog os Rows.traceBackRow.laid) #[.agg #[.string ⟨#[]⟩, .string ⟨#[]⟩, .string ⟨#[]⟩, .string ⟨#[]⟩, .int .i64 0, .int .i64 0], .string ⟨#[]⟩] 8 (World.laidAll_os _ _ _)
      (World.shaped_of_ZipB (by kernel_rfl) (by kernel_rfl)) (by kernel_rfl) (by kernel_rfl) (by kernel_rfl)
      (by rw [MakeChecks.laidMetH_plain _ _ _ (by kernel_rfl)]; exact laidMet_laidAll _ (by kernel_rfl) (by kernel_rfl))) ?_
  intro W base args ds gs before hval0 hW _ hwt hsh _
  have hval : ∀ (j : Nat) t v, Tryz.f4.params.toList[j]? = some t → args.toList[j]? = some v → Value.okWide Tryz.prog W .any base t v := fun j t v a b => hval0 j t v (by simpa using a) (by simpa using b)
  have hW' := hW
  obtain ⟨p, q, hA0, _⟩ := hW
  have hA : DataW.TrodAll enc Tryz.prog W 0 (fun _ => true) true Tryz.f4.params.toList args.toList ds p := hA0
  rw [paramsL] at hA hval
  have hwt' := hwt
  rw [paramsL] at hwt'
  obtain ⟨xs, hlen, hvl, hdl, hty, hR⟩ := args_open (g := Go.Ab.YtihjnlnmgbabjaaGreatDoor.gm) hin htop _ _ _ _ _ _ (by decide) hA hwt' hval
  match xs, hlen with
  | [x0, x1], _ =>
    have hy0 := (hty 0 39 x0 rfl rfl).1
    obtain ⟨s1, rfl, hs1⟩ := HasTy.str' (hty 1 9 x1 rfl rfl).1 (by kernel_rfl)
    obtain ⟨s', hc⟩ := arg_TraceBack hy0 (by kernel_rfl) hs1
    refine (law_calls Go.Ab.YtihjnlnmgbabjaaGreatDoor.linked (f' := 4) (f := 361) rfl prog_361 (w := W) (args := args) (Tryz.laysM185.s1_3 W hsh) (by simpa using hvl) (fun i u q a b => hR i u q (by simpa using a) b) hc).mono ?_
    rintro e W' ⟨rfl, hb⟩
    exact ⟨_, rfl, post_of laidOut (by kernel_rfl) (tb := 4) rfl (by kernel_rfl) rfl (fun ds' h' => by
      match ds', h' with
      | [d0, d1], _ => rfl) hW' (by rw [paramsL]; exact hdl) hb⟩
theorem TraceBack_row : Rows.TraceBackSaid :=
  OpenClaim.holds_of_wide 4 Tryz.f4 rfl rfl rfl rfl rfl rfl rfl ⟨rfl, rfl, rfl, rfl, rfl⟩ rfl rfl rfl rfl rfl (by kernel_rfl) Tryz.func4 (by kernel_rfl)
    (of_decide_eq_true (by kernel_rfl)) (by unfold Func.isWrapper; first | (rw [if_pos (by decide +kernel)]; kernel_rfl) | (rw [if_neg (by decide +kernel)]; exact ⟨rfl, rfl⟩))
    (fun os started H enc _ => lifted os started H enc)
theorem TraceBack_holds : Rows.TraceBackCardSaid :=
  Claim7.holds_tied_plain_at .later [] [.data, .pinned] true (true, "ac8d85de1718b92b4680db3c83323620f47926c2be2c8d8e754390122da0cedd") false TraceBack_row (fun _ h => by cases h) (by kernel_rfl) (fun _ h => by cases h) traceBack_row_tie rfl ⟨rfl, rfl⟩ (by kernel_rfl) rfl
    (fun f fn hf hfn => by
      obtain rfl : f = 4 := Option.some.inj ((show Tryz.prog.funcNamed "posthorn/posthornlaw25.TraceBack" = some 4 by kernel_rfl).symm.trans hf) |>.symm
      obtain rfl : fn = Tryz.f4 := (Option.some.inj (Tryz.func4.symm.trans hfn)).symm
      exact ⟨by kernel_rfl, fun j t ht => by
        have hm : t ∈ ([39, 9] : List TypeId) := by
          rw [← paramsL]; exact Array.mem_def.1 (Array.mem_of_getElem? ht)
        have hall : (([39, 9] : List TypeId).all fun u => !Tryz.prog.wantsStandIn u) = true := by kernel_rfl
        exact (show Tryz.prog.wantsStandIn t = false by simpa using List.all_eq_true.1 hall t hm)⟩)
    (by kernel_rfl)
#print axioms TraceBack_holds
end Go.Proofs.YtihjnlnmgbabjaaGreatDoor
