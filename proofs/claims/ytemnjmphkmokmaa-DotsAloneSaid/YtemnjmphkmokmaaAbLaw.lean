/-
  From the evaluator's answer to the contract of a law.
-/
import Derived.Test.YtemnjmphkmokmaaAbMain2
import Derived.Test.YtemnjmphkmokmaaAbLim
namespace Go.Ab
set_option linter.unusedVariables false
set_option linter.unusedSimpArgs false

variable {P : Program} {g : GMap} {A : AP}

/-- What is known where a law begins: all that lies in memory. -/
def κ0 (w : World) : K := { C := fun b i => w.cell? ⟨b, i, none⟩, φ := [], lam := [], τ := [] }
def st0 : St := { boxes := [], toks := [], loops := [], low := 0 }

theorem SR0 {w : World} (h : g.inv (κ0 w)) : SR P g w.heap.size (κ0 w) w st0 where
  cC b i v h := h
  bl := rfl
  bn := List.nodup_nil
  bx b blk cs h := by simp [st0] at h
  tl := rfl
  tk i blk e ce h := by simp [st0] at h
  td i j bi ei ci bj ej cj h := by simp [st0] at h
  ll := rfl
  ln := List.nodup_nil
  lb l D h := by simp [κ0] at h
  lp k l D r h := by simp [st0] at h
  hb := Nat.le_refl _
  gv := h

/-- **A law's contract**: it returns true; what lay in memory lies there as it did. -/
theorem law_calls (hL : Linked P g A) {f' : FuncId} {f : Nat} {fn : ACFn} (hg : g f' = some f) (hA : A f = some (.code fn)) {w : World} {args : Array Value} {ps : List PV} {st' : St} (hi : g.inv (κ0 w))
    (hsz : args.size = ps.length) (hargs : ∀ (i : Nat) (u : Value) (q : PV), args[i]? = some u → ps[i]? = some q → R g (κ0 w) u q) (hc : call A (.fn f []) ps st0 = some (.bool true, st')) :
    Calls P f' args w fun e w' => e = .returned (.bool true) ∧ Go.RowKit.Below w.heap.size w w' := by
  obtain ⟨n, hn⟩ := call_iff.1 hc
  refine calls_of_ev hL hg hA (SR0 hi) hsz hargs (Nat.le_refl _) hn ?_
  intro κ' z w' h1 h2 h3 h4 h5
  cases h4
  exact ⟨rfl, h5.below⟩

/-- A contract at the widest fence, at any that lets all in. -/
theorem callsIn_of_calls {F : Fence} (hF : Wide F) {n : Nat} {f : FuncId} {args : Array Value} {w : World} {Rr : Ending → World → Prop} (h : Calls P f args w Rr) : CallsIn F n P f args w Rr := by
  have hfn : F.fn = fun _ => True := funext fun f => propext ⟨fun _ => trivial, fun _ => hF.2 f⟩
  obtain ⟨fnF, dep, al, ro⟩ := F
  simp only at hfn
  subst hfn
  obtain ⟨⟨h1, h2⟩, _⟩ := hF
  simp only at h1 h2
  subst h1 h2
  have := callsIn_wide (n := n) (P := P) (f := f) (args := args) (w := w) (R := Rr)
  exact this.2 h

/-- A primitive, out of the contract of the function's whose code the program has. -/
theorem prim_of_calls {f' : FuncId} {p : List PV → Option PV} {pf : Func} (hpf : P.funcs[f']? = some pf) (hb : pf.body.isSome = true) (hn : pf.name ≠ "runtime.NumGoroutine")
    (h : ∀ (κ : K) (w : World) (args : Array Value) (ps : List PV) (v : PV), g.inv κ → (∀ b i u, κ.C b i = some u → w.cell? ⟨b, i, none⟩ = some u) → args.size = ps.length → (∀ (i : Nat) (u : Value) (q : PV), args[i]? = some u → ps[i]? = some q → R g κ u q) → p ps = some v →
      Calls P f' args w fun e w' => ∃ z, e = .returned z ∧ (∀ κ', R g κ' z v) ∧ w'.heap = w.heap ∧ w'.os = w.os ∧ w'.tape = w.tape ∧ w'.output = w.output) : PrimOK P g f' p := by
  intro base κ w st args ps v hsr hsz hargs hp F hF nn o a next Q hnext
  have hrun : (callFunc f' args).run P w = .ok (.enter f' args) w := by
    have hb2 : pf.body.isNone = false := by
      cases hbb : pf.body with
      | none => rw [hbb] at hb; cases hb
      | some c => rfl
    have hn2 : (pf.name == "runtime.NumGoroutine") = false := by simpa using hn
    unfold callFunc
    simp only [Sem.run_bind, Go.program, Sem.run, Result.andThen, hpf, hn2, hb2]
    rfl
  rw [hrun]
  refine ⟨hF.deep, callsIn_of_calls hF ?_⟩
  refine (h κ w args ps v hsr.gv hsr.cC hsz hargs hp).mono ?_
  rintro e w' ⟨z, rfl, hz, h1, h2, h3, h4⟩
  exact hnext κ z w' (K.le.refl κ) rfl (hsr.heap h1) (hz κ) (Fr.same h1 h2 h3 h4)
end Go.Ab
