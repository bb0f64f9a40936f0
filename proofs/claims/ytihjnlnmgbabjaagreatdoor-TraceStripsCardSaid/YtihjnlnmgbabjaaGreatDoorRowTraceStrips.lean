/-
  Proved: posthornlaw25.TraceStrips returns true for every input, and the input reads afterwards as it read before.
  Conditions: none beyond the row's own.
-/
import Derived.Test.YtihjnlnmgbabjaaGreatDoorA3
import Derived.Test.YtihjnlnmgbabjaaGreatDoorA5
import Derived.Test.YtihjnlnmgbabjaaGreatDoorB1
import Derived.Test.YtihjnlnmgbabjaaGreatDoorRows
import Derived.Test.YtihjnlnmgbabjaaGreatDoorCards
import Derived.Test.YtihjnlnmgbabjaaGreatDoorTie
import Derived.SevenTiedAt
set_option linter.unusedVariables false
set_option linter.unusedSimpArgs false
namespace Go.Proofs.YtihjnlnmgbabjaaGreatDoor
open Go.ChangeShapes Go.WideShapes Go.ChangeAt Go.RowKit Go.Ab

theorem own : ownKnob Tryz.prog.godebug = none := by kernel_rfl
theorem laidOut : laidOutB Tryz.prog = true := by kernel_rfl
def tsIn : List TypeId := []
def tsTop : List TypeId := [22, 9]
theorem hin : tsIn.all (okIn Tryz.prog tsIn) = true := by kernel_rfl
theorem htop : tsTop.all (okTop Tryz.prog tsIn tsTop) = true := by kernel_rfl
theorem paramsL : Tryz.f8.params.toList = [22, 9] := rfl

set_option maxHeartbeats 1600000 in
set_option maxRecDepth 100000 in
theorem lifted (os : Os) (started : os.Started) (H : Type) (enc : TypeId × Value → H) :
    ReturnsInHanded {} Tryz.checked os 8 .any (fun w args => (Rows.traceStripsSpec.pre enc Tryz.prog Tryz.f8 Rows.traceStripsRow.domain false w args ∧ laidMetH Tryz.prog Rows.traceStripsRow.laid w) ∧ sizedMet enc Tryz.prog Tryz.f8 (OpenSpec.ofChange Rows.traceStripsSpec) false w args) (Rows.traceStripsSpec.post enc Tryz.prog Tryz.f8 false true false false) := by
  refine returns_laid_shaped (C := Tryz.checked) (fun w => laidMetH Tryz.prog Rows.traceStripsRow.laid w) (fun _ _ hh h => h.of_heap hh) own started (by kernel_rfl) Tryz.func8
    (ChangeSpec.witness_shaped (enc := enc) (C := Tryz.checked) (os := os) (X := fun w _ => laidMetH Tryz.prog Rows.traceStripsRow.laid w) false (World.laidAll Tryz.prog os Rows.traceStripsRow.laid) #[.slice none 0 0, .string ⟨#[]⟩] 8 (World.laidAll_os _ _ _)
      (World.shaped_of_ZipB (by kernel_rfl) (by kernel_rfl)) (by kernel_rfl) (by kernel_rfl) (by kernel_rfl)
      (by rw [MakeChecks.laidMetH_plain _ _ _ (by kernel_rfl)]; exact laidMet_laidAll _ (by kernel_rfl) (by kernel_rfl))) ?_
  intro W base args ds gs before hval0 hW _ hwt hsh _
  have hval : ∀ (j : Nat) t v, Tryz.f8.params.toList[j]? = some t → args.toList[j]? = some v → Value.okWide Tryz.prog W .any base t v := fun j t v a b => hval0 j t v (by simpa using a) (by simpa using b)
  have hW' := hW
  obtain ⟨p, q, hA0, _⟩ := hW
  have hA : DataW.TrodAll enc Tryz.prog W 0 (fun _ => true) true Tryz.f8.params.toList args.toList ds p := hA0
  rw [paramsL] at hA hval
  have hwt' := hwt
  rw [paramsL] at hwt'
  obtain ⟨xs, hlen, hvl, hdl, hty, hR⟩ := args_open (g := Go.Ab.YtihjnlnmgbabjaaGreatDoor.gm) hin htop _ _ _ _ _ _ (by decide) hA hwt' hval
  match xs, hlen with
  | [x0, x1], _ =>
    obtain ⟨l0, hx0, ht0, hl0⟩ := HasTy.bytes (e := 5) (hty 0 22 x0 rfl rfl).1 (by kernel_rfl) (by kernel_rfl)
    obtain ⟨s1, rfl, hs1⟩ := HasTy.str' (hty 1 9 x1 rfl rfl).1 (by kernel_rfl)
    obtain ⟨s', hc⟩ := law_TraceStrips hx0 hl0 ht0 hs1
    refine (law_calls Go.Ab.YtihjnlnmgbabjaaGreatDoor.linked (f' := 8) (f := 369) rfl prog_369 (w := W) (args := args) (Tryz.laysM185.s1_3 W hsh) (by simpa using hvl) (fun i u q a b => hR i u q (by simpa using a) b) hc).mono ?_
    rintro e W' ⟨rfl, hb⟩
    exact ⟨_, rfl, post_of laidOut (by kernel_rfl) (tb := 4) rfl (by kernel_rfl) rfl (fun ds' h' => by
      match ds', h' with
      | [d0, d1], _ => rfl) hW' (by rw [paramsL]; exact hdl) hb⟩
theorem TraceStrips_row : Rows.TraceStripsSaid :=
  OpenClaim.holds_of_wide 8 Tryz.f8 rfl rfl rfl rfl rfl rfl rfl ⟨rfl, rfl, rfl, rfl, rfl⟩ rfl rfl rfl rfl rfl (by kernel_rfl) Tryz.func8 (by kernel_rfl)
    (of_decide_eq_true (by kernel_rfl)) (by unfold Func.isWrapper; first | (rw [if_pos (by decide +kernel)]; kernel_rfl) | (rw [if_neg (by decide +kernel)]; exact ⟨rfl, rfl⟩))
    (fun os started H enc _ => lifted os started H enc)
theorem TraceStrips_holds : Rows.TraceStripsCardSaid :=
  Claim7.holds_tied_plain_at .later [] [.data, .pinned] true (true, "ac8d85de1718b92b4680db3c83323620f47926c2be2c8d8e754390122da0cedd") false TraceStrips_row (fun _ h => by cases h) (by kernel_rfl) (fun _ h => by cases h) traceStrips_row_tie rfl ⟨rfl, rfl⟩ (by kernel_rfl) rfl
    (fun f fn hf hfn => by
      obtain rfl : f = 8 := Option.some.inj ((show Tryz.prog.funcNamed "posthorn/posthornlaw25.TraceStrips" = some 8 by kernel_rfl).symm.trans hf) |>.symm
      obtain rfl : fn = Tryz.f8 := (Option.some.inj (Tryz.func8.symm.trans hfn)).symm
      exact ⟨by kernel_rfl, fun j t ht => by
        have hm : t ∈ ([22, 9] : List TypeId) := by
          rw [← paramsL]; exact Array.mem_def.1 (Array.mem_of_getElem? ht)
        have hall : (([22, 9] : List TypeId).all fun u => !Tryz.prog.wantsStandIn u) = true := by kernel_rfl
        exact (show Tryz.prog.wantsStandIn t = false by simpa using List.all_eq_true.1 hall t hm)⟩)
    (by kernel_rfl)
#print axioms TraceStrips_holds
end Go.Proofs.YtihjnlnmgbabjaaGreatDoor
