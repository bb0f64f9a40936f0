/-
  Ranges over functions; memory that grows.
-/
import Derived.Test.YtemnjmphkmokmaaAbOwn
namespace Go.Ab
set_option linter.unusedVariables false
set_option linter.unusedSimpArgs false
variable {A : AP} {st : St} {e : Env}

theorem W_rangeFunc {f : Opd} {ps : List Nat} {asg body : ACode} {fid : Nat} {caps : List PV} {fn : ACFn} {Q : Ex → Env → St → Prop} (hf : f.ev e = .fn fid caps) (hA : A fid = some (.code fn))
    (h : ∃ v s1 r, call A (.fn fid caps) [.yld st.loops.length] { st with loops := st.loops ++ [recOf e ps asg body] } = some (v, s1) ∧ s1.loops[st.loops.length]? = some r ∧ r.status ≠ 1 ∧ Q r.pend e { s1 with loops := s1.loops.take st.loops.length }) :
    W A (.rangeFunc f ps asg body) e st Q := by
  obtain ⟨v, s1, r, h1, h2, h3, h4⟩ := h
  refine ⟨(r.pend, e, { s1 with loops := s1.loops.take st.loops.length }), ?_, h4⟩
  rw [ex_rangeFunc hf hA, h1]
  simp only [h2, h3, if_false]

/-- What is asked where a round ends. -/
def roundQ (k : Nat) (K : Bool → St → Prop) : Ex → Env → St → Prop := fun x _ s2 => ∃ r2, s2.loops[k]? = some r2 ∧ K (decide (x = .normal)) { s2 with loops := s2.loops.set k { r2 with status := if x = .normal then 0 else 2, pend := x } }

theorem yld_of_W {k : Nat} {args : List PV} {r : LoopS} {e1 : Env} {K : Bool → St → Prop} (hr : st.loops[k]? = some r) (hs : r.status = 0) (hl : args.length = r.params.length)
    (ha : ex A r.assign (updAll r.env r.params args) st = some (.normal, e1, st))
    (hb : W A r.body e1 { st with loops := st.loops.set k { r with status := 1 } } (roundQ k K)) : ∃ b s', call A (.yld k) args st = some (.bool b, s') ∧ K b s' := by
  obtain ⟨⟨x, e2, s2⟩, h1, r2, h2, h3⟩ := hb
  refine ⟨decide (x = .normal), _, ?_, h3⟩
  rw [call_yld hr hs hl, ha]
  simp only [hr, hs, if_true]
  rw [h1]
  simp only at h2 ⊢
  rw [h2]

theorem ex_of_W {c : ACode} {E : Env} {S : St} {x : Ex} (h : W A c e st (fun x' e' s' => x' = x ∧ e' = E ∧ s' = S)) : ex A c e st = some (x, E, S) := by
  obtain ⟨⟨x', e', s'⟩, h1, rfl, rfl, rfl⟩ := h
  exact h1
theorem tok1_mk {b : List (List PV)} {t : List Bool} {l : List LoopS} {lo : Nat} : St.tok1 ⟨b, t, l, lo⟩ = ⟨b, t ++ [true], l, lo⟩ := rfl

/-! ### Lists that have grown -/
theorem get_app {α : Type} {l r : List α} {k : Nat} : (l ++ r)[l.length + k]? = r[k]? := by
  rw [List.getElem?_append_right (by omega)]; congr 1; omega
theorem get_app0 {α : Type} {l r : List α} {a : α} : (l ++ a :: r)[l.length]? = some a := by simp
theorem set_app {α : Type} {l r : List α} {k : Nat} {v : α} : (l ++ r).set (l.length + k) v = l ++ r.set k v := by
  rw [List.set_append_right _ _ (by omega)]; congr 2; omega
theorem set_app0 {α : Type} {l r : List α} {a v : α} : (l ++ a :: r).set l.length v = l ++ v :: r := by
  have := set_app (l := l) (r := a :: r) (k := 0) (v := v)
  simp only [Nat.add_zero, List.set_cons_zero] at this; exact this

theorem tokLt_mono {x : PV} {n m : Nat} (h : x.tokLt n = true) (hnm : n ≤ m) : x.tokLt m = true := by
  cases x with
  | bys t l => cases t <;> simp_all [PV.tokLt, Tok.lt]; omega
  | sl e t l => cases t <;> simp_all [PV.tokLt, Tok.lt]; omega
  | _ => rfl
/-! ### Slices of values -/
def PV.vs (esz : Nat) : PV → Option (List PV)
  | .nils => some []
  | .sl e _ xs => if e = esz then some xs else none
  | _ => none
theorem vs_cases {esz : Nat} {x : PV} {xs : List PV} (h : x.vs esz = some xs) : (x = .nils ∧ xs = []) ∨ ∃ t, x = .sl esz t xs := by
  cases x <;> simp [PV.vs] at h
  · exact .inl ⟨rfl, h⟩
  · obtain ⟨rfl, rfl⟩ := h; exact .inr ⟨_, rfl⟩
theorem len_vs {esz : Nat} {x : PV} {xs : List PV} (h : x.vs esz = some xs) : lenPV false x = some (.int .i64 (xs.length : Int)) := by
  rcases vs_cases h with ⟨rfl, rfl⟩ | ⟨t, rfl⟩ <;> rfl
theorem iaddr_vs {esz : Nat} {x : PV} {xs : List PV} {k : IntKind} {c : Int} (h : x.vs esz = some xs) (h1 : 0 ≤ c) (h2 : c.toNat < xs.length) : iaddrPV esz x (.int k c) = some (.cp (xs.getD c.toNat .undef).cells) := by
  rcases vs_cases h with ⟨rfl, rfl⟩ | ⟨t, rfl⟩
  · simp at h2
  · simp [iaddrPV, intOf, h1, show c < xs.length by omega]
theorem newSl_vs {esz : Nat} {xs : List PV} : (newSl st esz xs).vs esz = some xs := by
  unfold newSl; split
  · rename_i h; rw [h]; rfl
  · simp [PV.vs]
theorem newS_eq {b : List (List PV)} {t : List Bool} {l : List LoopS} {lo : Nat} {c : Bool} : newS ⟨b, t, l, lo⟩ c = ⟨b, t ++ (if c then [] else [true]), l, lo⟩ := by
  cases c <;> simp [newS, St.tok1]

/-- Boxes and tokens of its own are gone behind a call that hands back plain values. -/
theorem leave_gone {v : PV} {bs : List (List PV)} {ts : List Bool} (h1 : v.inB st.boxes.length = true) (h3 : keepRes st.toks.length (st.toks ++ ts) v = (v, [])) :
    leave st ⟨st.boxes ++ bs, st.toks ++ ts, st.loops, st.boxes.length⟩ v = (v, st) := by
  simp [leave, h1, h3]
theorem leave_gone0 {v : PV} {bs : List (List PV)} (h1 : v.inB st.boxes.length = true) (h3 : keepRes st.toks.length (st.toks ++ []) v = (v, [])) :
    leave st ⟨st.boxes ++ bs, st.toks, st.loops, st.boxes.length⟩ v = (v, st) := by
  have := leave_gone (bs := bs) h1 h3
  simpa using this
end Go.Ab
