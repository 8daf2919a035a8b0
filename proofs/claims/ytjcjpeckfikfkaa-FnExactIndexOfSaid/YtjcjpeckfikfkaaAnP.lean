/-
  An, part P: the library sorts an array of the call's own by a function with captured variables.
-/
import Derived.Test.YtjcjpeckfikfkaaAnO
set_option linter.all false
namespace Go.Am
open List
variable [U : Univ]
attribute [local irreducible] OFF

section
variable {E : Ent} {N : Nat} {P : Program} {ops : Array Oper} {Q : Exit → St → Prop} {st : St}

def CapsR (A : Nat → Prop) (w : World) (cp : List TV) (cvs : List Value) : Prop :=
  cp.length = cvs.length ∧ ∀ (i : Nat) (tv : TV) (v : Value), cp[i]? = some tv → cvs[i]? = some v → ∃ (b off : Nat) (cs : List Value), v = .pointer (some ⟨b, off, none⟩) ∧ A b ∧ (∀ (j : Nat) (u : Value), cs[j]? = some u → w.cell? ⟨b, off + j, none⟩ = some u) ∧ RepC A w tv.1 tv.2 cs

structure SortK (P : Program) (f g : FuncId) (cp : List TV) (t : Ty) (pre : List t.den → Prop) (srt : List t.den → List t.den) : Prop where
  fn : ∃ fn c, P.funcs[f]? = some fn ∧ (fn.name == "runtime.NumGoroutine") = false ∧ fn.body = some c
  len : ∀ xs, (srt xs).length = xs.length
  nilp : ∀ w cvs, Calls P f #[.slice none 0 0, .func (.func g) #[] cvs] w fun e w' => e = .returned (.tuple #[]) ∧ w' = w
  row : ∀ (A : Nat → Prop) (w : World) (b D : Nat) (cs : Array Value) (el : Nat) (xs : List t.den) (css : Nat → List Value) (cvs : List Value), CapsR A w cp cvs → (∀ c, A c → c < w.heap.size ∧ c ≠ b) → w.heap[b]? = some (.cells cs el (0, 0)) →
    cs.size = D * t.size → xs.length ≤ D → (∀ k (hk : k < xs.length), (css k).length = t.size ∧ (∀ (j : Nat) (v : Value), (css k)[j]? = some v → cs[k * t.size + j]? = some v) ∧ RepC A w t xs[k] (css k)) →
    (xs.length : Int) ≤ 4294967296 → pre xs →
    Calls P f #[.slice (some ⟨b, 0, none⟩) xs.length D, .func (.func g) #[] cvs.toArray] w fun e w' => e = .returned (.tuple #[]) ∧ w'.os = w.os ∧ w'.tape = w.tape ∧ (w'.output = w.output ∧ U.dr w.drawn ≤ U.dr w'.drawn) ∧ w.heap.size ≤ w'.heap.size ∧
      (∀ c, c < w.heap.size → c ≠ b → w'.heap[c]? = w.heap[c]?) ∧ ∃ (cs' : Array Value) (css' : Nat → List Value), w'.heap[b]? = some (.cells cs' el (0, 0)) ∧ cs'.size = D * t.size ∧
        ∀ k (hk : k < (srt xs).length), (css' k).length = t.size ∧ (∀ (j : Nat) (v : Value), (css' k)[j]? = some v → cs'[k * t.size + j]? = some v) ∧ RepC A w t (srt xs)[k] (css' k)

theorem AWO.sortK {f g : FuncId} {cp : List TV} {t : Ty} {pre : List t.den → Prop} {srt : List t.den → List t.den} (hS : SortK P f g cp t pre srt) {i : Nat} {rest : List Nat} {d : Nat} {x y : Operand} {ats : Array TypeId} {type : TypeId} {pos : String} {after : Array Edge}
    {id ep : Nat} {xs : List t.den} {l : List Nat} (hl : l = i :: rest) (ho : ops[i]? = some ⟨some d, .call ⟨.value (.func f), #[x, y], ats⟩, type, pos, after, none⟩) (hd : dstOK N (some d) = true)
    (hx : opv st.env x = (.arr id ep, [])) (hy : opv st.env y = (.clo g (cp.map fun tv => .dref tv.1 tv.2), [])) (hm : st.memf id = some (.arr ep t xs)) (hp : pre xs)
    (h : AWO P E N ops rest Q ⟨(d, .top) :: st.slots, (id, .arr ep t (srt xs)) :: st.mem⟩) : AWO P E N ops l Q st := by
  rintro a w ⟨β, hs⟩; subst hl
  have hdN : ∀ d', some d = some d' → d' < N := by
    intro d' e; cases e; exact Nat.le_of_ble_eq_true hd
  obtain ⟨fn, c, hfn, hname, hb⟩ := hS.fn; have hxr := opv_rep hs hx (fun p hp => by cases hp); generalize hxe : a.eval x = xv at hxr; have hyr := opv_rep hs hy (fun p hp => by cases hp)
  obtain ⟨cvs, hye, hcap⟩ : ∃ cvs : List Value, a.eval y = .func (.func g) #[] cvs.toArray ∧ CapsR (allow E w β) w cp cvs := by
    generalize a.eval y = yv at hyr
    cases hyr with
    | clo _ _ vs hlen hr =>
      refine ⟨vs, rfl, by rw [length_map] at hlen; exact hlen, fun i tv v h1 h2 => ?_⟩; have := hr i (.dref tv.1 tv.2) v (by rw [getElem?_map, h1]; rfl) h2
      cases this with
      | dref _ _ b off cs hA hc hrep => exact ⟨b, off, cs, rfl, hA, hc, hrep⟩
  have hrun : ∀ w, (execOp a.eval ⟨some d, .call ⟨.value (.func f), #[x, y], ats⟩, type, pos, after, none⟩).run P w = .ok (.enter f #[xv, .func (.func g) #[] cvs.toArray]) w := by
    intro w; simp only [execOp, resolve, Deferred.ofValue, Sem.run_bind, Sem.run_pure, Result.andThen_ok, invoke, callFunc, run_program, hfn, hname, hb, Bool.false_eq_true, if_false, Act.eval]; simp [hxe, hye]; try rfl
  have hmemf : (⟨(d, .top) :: st.slots, (id, .arr ep t (srt xs)) :: st.mem⟩ : St).memf = setm st.memf id (.arr ep t (srt xs)) := by
    funext y; show lookM _ y = _; simp only [lookM, setm]; rfl
  have henv : (⟨(d, .top) :: st.slots, (id, .arr ep t (srt xs)) :: st.mem⟩ : St).env = putE st.env (some d) .top := by
    funext y; show lookS _ y = _; simp only [lookS, putE]; rfl
  rw [wpOpsIn_cons]; unfold wpOpIn; simp only [ho]; rw [if_pos (by rfl)]; refine ⟨fun _ _ => trivial, ?_⟩; rw [Oper.semAt_eq _ _ _ (fun c e => by cases e), hrun w, Oper.uponIn_enter]; refine ⟨fun h => (by cases h), callsIn_fence ?_⟩
  have next : ∀ (w' : World), SimB E N st.env (setm st.memf id (.arr ep t (srt xs))) a w' β → wpOpsIn E.fence 0 P ops (CQ E N Q) rest (a.put (some d) (.tuple #[])) w' := by
    intro w' h1; refine h _ w' ⟨β, ?_⟩; rw [hmemf, henv]; exact h1.put hdN (.top _)
  cases hxr with
  | arr _ _ v hmm h1 hv =>
    have hv := hv t xs hm; obtain ⟨hlim, ⟨hb0, hnil⟩ | ⟨b, D, cs, el, css, hb0, hh, hsz, hD, hel⟩⟩ := hs.blk id _ hm
    · rw [hb0] at hv; obtain ⟨_, _, rfl⟩ := hv; subst hnil; have e0 : srt [] = [] := length_eq_zero_iff.1 (hS.len []); refine (hS.nilp w _).mono ?_; rintro e w' ⟨rfl, rfl⟩; refine next _ ?_; rw [e0]
      have e2 : setm st.memf id (.arr ep t ([] : List t.den)) = st.memf := by
        funext j; by_cases hj : j = id
        · subst hj; rw [setm_same, hm]
        · rw [setm_ne _ _ hj]
      rw [e2]; exact hs
    · rw [hb0] at hv; obtain ⟨p, rfl, hle, hp0⟩ := hv; obtain rfl := hp0 (.inl rfl); simp only [Nat.sub_zero, Nat.zero_mul] at *; refine (hS.row (allow E w β) w b D cs el xs css cvs hcap (fun c hc => ⟨hc.1, fun e => by subst e; exact hc.2.2.1 id D hb0⟩) hh hsz hD hel hlim hp).mono ?_; rintro e w' ⟨rfl, g1, g2, g3, g4, g5, cs', css', g6, g7, g8⟩; refine next _ ?_
      have hAA : ∀ c, allow E w β c → allow E w' β c ∧ w'.heap[c]? = w.heap[c]? := by
        rintro c ⟨h1, h2, h3⟩; refine ⟨⟨by omega, h2, h3⟩, g5 c h1 ?_⟩; rintro rfl; exact h3.1 id D hb0
      refine hs.writeG hm hb0 (Nat.le_refl _) (fun _ => ?_) rfl g1 g2 g3 g4 g5 ⟨by rw [hS.len]; exact hlim, .inr ⟨b, D, cs', el, css', hb0, g6, g7, by rw [hS.len]; exact hD, fun k hk => ⟨(g8 k hk).1, (g8 k hk).2.1, (g8 k hk).2.2.mono hAA⟩⟩⟩; exact ⟨rfl, hS.len xs |>.symm⟩

end
end Go.Am
