/-
  Proved: posthornlaw05.DotsAlone returns true for every input, and the input reads afterwards as it read before.
  Conditions: none beyond the row's own.
-/
import Derived.Test.YtemnjmphkmokmaaAbBytes
import Derived.Test.YtemnjmphkmokmaaAbL5b
import Derived.Test.YtemnjmphkmokmaaAbSeat5
import Derived.Test.YtemnjmphkmokmaaRows
namespace Go.Proofs.Ytemnjmphkmokmaa
open Go.ChangeShapes Go.WideShapes Go.ChangeAt Go.RowKit Go.Ab
set_option linter.unusedVariables false

theorem own : ownKnob Try.prog.godebug = none := by kernel_rfl
theorem laidOut : laidOutB Try.prog = true := by kernel_rfl
theorem cells5 : Try.prog.cellsOf 5 = 1 := by kernel_rfl
theorem under22 : Try.prog.underlying 22 = some (.slice 5) := by kernel_rfl
theorem under5 : Try.prog.underlying 5 = some (.int .u8) := by kernel_rfl
theorem under4 : Try.prog.underlying 4 = some .bool := by kernel_rfl
theorem params4 : Try.f4.params = #[22] := rfl

set_option maxHeartbeats 1600000 in
set_option maxRecDepth 100000 in
theorem alone_lifted (os : Os) (started : os.Started) (H : Type) (enc : TypeId × Value → H) :
    ReturnsInHanded {} Try.checked os 4 .any (Rows.dotsAloneSpec.pre6 enc Try.prog Try.f4 Rows.dotsAloneRow.domain false) (Rows.dotsAloneSpec.post enc Try.prog Try.f4 false true false false) := by
  refine returnsInHanded_of_change_shaped (C := Try.checked) own started (by kernel_rfl) Try.func4
    (ChangeSpec.witness6 (enc := enc) (C := Try.checked) false ⟨#[], #[.slice none 0 0], []⟩ 8 (by kernel_rfl) (by kernel_rfl) (by kernel_rfl) (by kernel_rfl)) ?_
  intro W base args ds gs before hval0 hW _ _ hsh _
  have hval : ∀ (j : Nat) t v, Try.f4.params[j]? = some t → args[j]? = some v → Value.okWide Try.prog W .any base t v := hval0
  have hW' := hW
  obtain ⟨p, q, hA0, hV, rfl, _, _⟩ := hW
  have hA : DataW.TrodAll enc Try.prog W 0 (fun _ => true) true Try.f4.params.toList args.toList ds p := hA0
  rw [params4] at hA hval
  obtain ⟨v0, vs0, d0, ds0, p0, q0, hargs, rfl, rfl, h0, r0⟩ := trodAll_cons hA
  obtain ⟨rfl, rfl, rfl⟩ := trodAll_nil r0
  obtain ⟨rfl, rfl⟩ := trodVars_none hV
  obtain rfl : args = #[v0] := by
    apply Array.toList_inj.1; rw [hargs]
  clear hA0 hval0
  simp only [List.append_nil] at hW'
  have hlt : ∀ x ∈ p0, x.block < W.heap.size := fun x hx => by simpa using hW'.lt x (by simpa using hx)
  have harg0 : ∀ W', Below W.heap.size W W' → DataW.Trod enc Try.prog W' 0 (fun b => decide (b < W.heap.size)) true 22 v0 d0 p0 := fun W' hn =>
    Below.trod laidOut (by kernel_rfl) (of_decide_eq_true (by kernel_rfl)) h0 hn hlt
  obtain ⟨x, l, hx, hxt, hR⟩ := open_bytes (g := Go.Ab.Ytemnjmphkmokmaa.gm) under22 under5 cells5 (hval 0 22 v0 rfl rfl) h0
  obtain ⟨s', hc⟩ := law_DotsAlone hx hxt
  refine (law_calls Go.Ab.Ytemnjmphkmokmaa.linked (f' := 4) (f := 9) rfl prog_9 (w := W) (args := #[v0]) (ps := [x]) (Try.laysM185.s1_3 W hsh) rfl (fun i u q a b => ?_) hc).mono ?_
  · cases i with
    | zero => simp at a b; subst a b; exact hR
    | succ i => simp at a
  rintro e W' ⟨rfl, hb⟩
  refine ⟨_, rfl, d0 :: [], [], p0, [], p0, [], hW', ?_, ?_, rfl, hb.frame _, fun _ => ?_⟩
  · exact trodAll_mk1 (shut_bool under4 true)
  · exact trodAll_mk1 (harg0 _ hb)
  · obtain ⟨_, _, _, _, _, hz, hn⟩ := hW'
    have hall : DataW.Trod enc Try.prog W' 0 (fun _ => true) true 22 v0 d0 p0 := WideElems.Trod_stays laidOut (by kernel_rfl) (of_decide_eq_true (by kernel_rfl)) h0 (fun x hx => hb.same (hlt x hx)) (fun _ _ => rfl)
    refine ⟨ok_one (by kernel_rfl) rfl (okWide_bool_mk under4 true), _, _, ([] ++ p0) ++ [], ⟨[] ++ p0, [], trodAll_append (trodAll_mk1 hall) (trodAll_mk1 (shut_bool under4 true)), (show DataW.TrodVars enc Try.checked.prog W' (fun _ => true) Rows.dotsAloneSpec.vars [] [] from rfl), rfl, ?_, ?_⟩, ?_⟩
    · intro b off hp
      have hp' : MemPlace.cell b off ∈ p0 := by simpa using hp
      have h1 := hz b off hp'
      have h2 : b < W.heap.size := hlt _ hp'
      rw [show W'.frozen? { block := b, off := off } = W.frozen? { block := b, off := off } by simp only [World.frozen?, hb.block b h2]]
      exact h1
    · intro ha; cases ha
    · intro p hp _
      simpa using hp
theorem DotsAlone_holds : Rows.DotsAloneSaid :=
  OpenClaim.holds_of_wide 4 Try.f4 rfl rfl rfl rfl rfl rfl rfl ⟨rfl, rfl, rfl, rfl, rfl⟩ rfl rfl rfl rfl rfl (by kernel_rfl) Try.func4 (by kernel_rfl)
    (of_decide_eq_true (by kernel_rfl)) (by unfold Func.isWrapper; first | (rw [if_pos (by decide +kernel)]; kernel_rfl) | (rw [if_neg (by decide +kernel)]; exact ⟨rfl, rfl⟩))
    (fun os started H enc _ => alone_lifted os started H enc)
#print axioms DotsAlone_holds
end Go.Proofs.Ytemnjmphkmokmaa
