/-
  An, part C: functions that call themselves.
-/
import Derived.Test.YtclennmbceaoeaaAnA
set_option linter.all false
namespace Go.Am
variable [U : Univ]

section
variable {P : Program} {f : FuncId} {fn : Func} {c : Code} {sp : FnSpec}

theorem FnOK.never (hf : P.funcs[f]? = some fn) (hname : (fn.name == "runtime.NumGoroutine") = false) (hb : fn.body = some c) (h : AllTV (sp.ps.map PK.ty) fun tvs => ¬ sp.pre tvs) : FnOK P f sp := by
  refine ⟨⟨fn, hf, hname, by rw [hb]; rfl⟩, ?_⟩; intro A w vs tvs bs _ _ _ hargs hpre _; exact absurd hpre (h.get tvs hargs.types.1)

theorem FnOK.of_fuel {spn : Nat → FnSpec} (h : ∀ n, FnOK P f (spn n)) (hps : ∀ n, (spn n).ps = sp.ps) (hrs : ∀ n, (spn n).rs = sp.rs)
    (hx : ∀ tvs : List TV, tvs.map (·.1) = sp.ps.map PK.ty → sp.pre tvs → ∃ n, (spn n).pre tvs ∧ (spn n).fn tvs = sp.fn tvs ∧ (spn n).bx tvs = sp.bx tvs) : FnOK P f sp := by
  refine ⟨(h 0).1, ?_⟩; intro A w vs tvs bs h1 h2 h3 h4 h5 h6; obtain ⟨n, e1, e2, e3⟩ := hx tvs h4.types.1 h5; have := (h n).2 A w vs tvs bs h1 h2 h3 (by rw [hps n]; exact h4) e1 h6; refine this.mono fun e w' => ?_; rintro ⟨rvs, nb, A', hp⟩; exact ⟨rvs, nb, A', { ret := hp.ret, os := hp.os, tape := hp.tape, output := hp.output, grow := hp.grow, old := hp.old, allowed := hp.allowed, nodup := hp.nodup, new := hp.new, ress := by rw [← hrs n, ← e2]; exact hp.ress, boxes := by rw [← hps n, ← e3]; exact hp.boxes }⟩

end
end Go.Am
