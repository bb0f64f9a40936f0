/-
  Plain laws on frames: the lines of what is stuffed.
-/
import Derived.Test.YtemnjmphkmokmaaAbS9
namespace Go.Ab
set_option linter.unusedVariables false
set_option linter.unusedSimpArgs false

/-- No 13 and no 10. -/
def NoCrlf (m : List UInt8) : Prop := ∀ c ∈ m, crlf c = false

theorem bareAt_none {m : List UInt8} (h : ¬ 0 ≤ bareAt m) : NoCrlf m := by
  intro c hc
  unfold bareAt at h
  cases hf : m.findIdx? crlf with
  | some i => simp [hf] at h
  | none =>
    rw [List.findIdx?_eq_none_iff] at hf
    exact hf c hc

theorem segs_line : ∀ (m acc rest : List UInt8), NoCrlf m → segs (m ++ 13 :: 10 :: rest) acc = (acc ++ m, true) :: segs rest [] := by
  intro m
  induction m with
  | nil => intro acc rest _; simp [segs]
  | cons c m ih =>
    intro acc rest h
    have hc : ¬ c = 13 := fun he => by have := h c (by simp); rw [he] at this; simp [crlf] at this
    have ih' := ih (acc ++ [c]) rest (fun x hx => h x (by simp [hx]))
    cases m with
    | nil =>
      simp only [List.cons_append, List.nil_append] at ih' ⊢
      rw [segs, if_neg (fun hh => hc hh.1), ih']; simp
    | cons d r =>
      simp only [List.cons_append] at ih' ⊢
      rw [segs, if_neg (fun hh => hc hh.1), ih']; simp

/-- A line of a frame. -/
def dotted (q : Nat × List UInt8 × Bool) : List UInt8 := (if q.2.1.head? = some 46 then [46] else []) ++ q.2.1
theorem dotted_no {q : Nat × List UInt8 × Bool} (h : NoCrlf q.2.1) : NoCrlf (dotted q) := by
  intro c hc
  unfold dotted at hc
  rw [List.mem_append] at hc
  rcases hc with hc | hc
  · split at hc
    · simp at hc; subst hc; decide
    · simp at hc
  · exact h c hc

theorem segs_stuff : ∀ (r : List (Nat × List UInt8 × Bool)), (∀ q ∈ r, NoCrlf q.2.1) → segs (stuffLines r ++ [46, 13, 10]) [] = r.map (fun q => (dotted q, true)) ++ [([46], true)] := by
  intro r
  induction r with
  | nil => intro _; simp [stuffLines, segs]
  | cons q r ih =>
    intro h
    have h1 : stuffLines (q :: r) ++ [46, 13, 10] = dotted q ++ 13 :: 10 :: (stuffLines r ++ [46, 13, 10]) := by
      simp [stuffLines, stuffLine, dotted]
    rw [h1, segs_line _ _ _ (dotted_no (h q (by simp))), ih (fun q' hq' => h q' (by simp [hq']))]
    simp

/-- The lines of a right text have no 13, no 10. -/
theorem right_no {n : Nat} {r : List (Nat × List UInt8 × Bool)} (h : (rightGo n r).2 = 0) : ∀ q ∈ r, NoCrlf q.2.1 := by
  intro q hq
  induction r with
  | nil => simp at hq
  | cons q' r ih =>
    simp only [rightGo] at h
    by_cases hf : (faultOf n q').2 = 0
    · rw [if_neg (by simpa using hf)] at h
      rcases List.mem_cons.1 hq with rfl | hq
      · refine bareAt_none (fun hb => ?_)
        simp [faultOf, hb] at hf
      · exact ih h hq
    · rw [if_pos (by simpa using hf)] at h
      exact absurd h hf
end Go.Ab
