/-
  An, part W: elements are taken out of an array of the call's own.
-/
import Derived.Test.YtgbapklfgjnggaaAnI
set_option linter.all false
namespace Go.Am
variable [U : Univ]
attribute [local irreducible] OFF

section
variable {E : Ent} {N : Nat} {P : Program} {ops : Array Oper} {Q : Exit → St → Prop} {st : St} {a : Act} {w : World} {β : Bind} {env : Nat → SV} {mem : Nat → Option Blk}

structure DelC (P : Program) (f : FuncId) (sz : Nat) : Prop where
  fn : ∃ fn c, P.funcs[f]? = some fn ∧ (fn.name == "runtime.NumGoroutine") = false ∧ fn.body = some c
  row : ∀ (w : World) (b D : Nat) (cs : Array Value) (el n i j : Nat), w.heap[b]? = some (.cells cs el (0, 0)) → cs.size = D * sz → n ≤ D → (n : Int) ≤ 4294967296 → i < j → j ≤ n →
    (∀ k, k < n * sz → ∃ v, cs[k]? = some v ∧ v.oneCell' = true) →
    Calls P f #[.slice (some ⟨b, 0, none⟩) n D, .int .i64 i, .int .i64 j] w fun e w' => e = .returned (.slice (some ⟨b, 0, none⟩) (n - (j - i)) D) ∧ w'.os = w.os ∧ w'.tape = w.tape ∧ (w'.output = w.output ∧ U.dr w.drawn ≤ U.dr w'.drawn) ∧ w.heap.size ≤ w'.heap.size ∧
      (∀ c, c < w.heap.size → c ≠ b → w'.heap[c]? = w.heap[c]?) ∧ ∃ cs' : Array Value, w'.heap[b]? = some (.cells cs' el (0, 0)) ∧ cs'.size = cs.size ∧
        ∀ k, k < (n - (j - i)) * sz → cs'[k]? = if k < i * sz then cs[k]? else cs[k + (j - i) * sz]?

theorem del_get {α : Type} (xs : List α) {i j k : Nat} (hij : i < j) (hj : j ≤ xs.length) (hk : k < (xs.take i ++ xs.drop j).length) :
    ∃ h : (if k < i then k else k + (j - i)) < xs.length, (xs.take i ++ xs.drop j)[k] = xs[if k < i then k else k + (j - i)] := by
  have hk2 : k < xs.length - (j - i) := by
    rw [List.length_append, List.length_take, List.length_drop] at hk; omega
  by_cases hki : k < i
  · refine ⟨by rw [if_pos hki]; omega, ?_⟩; simp only [if_pos hki]; rw [List.getElem_append_left (by rw [List.length_take]; omega), List.getElem_take]
  · refine ⟨by rw [if_neg hki]; omega, ?_⟩; simp only [if_neg hki]; rw [List.getElem_append_right (by rw [List.length_take]; omega), List.getElem_drop]; congr 1; rw [List.length_take]; omega

theorem AWO.delete {f : FuncId} {t : Ty} (hS : DelC P f t.size) {i : Nat} {rest : List Nat} {d : Nat} {x y z : Operand} {ats : Array TypeId} {type : TypeId} {pos : String} {after : Array Edge}
    {id ep : Nat} {xs : List t.den} {p q : Int} {l : List Nat} (hl : l = i :: rest) (ho : ops[i]? = some ⟨some d, .call ⟨.value (.func f), #[x, y, z], ats⟩, type, pos, after, none⟩) (hd : dstOK N (some d) = true)
    (hx : opv st.env x = (.arr id ep, [])) (hy : opv st.env y = (.int .i64 p, [])) (hz : opv st.env z = (.int .i64 q, [])) (hm : st.memf id = some (.arr ep t xs)) (hpq : 0 ≤ p ∧ p < q ∧ q ≤ (xs.length : Int))
    (h : AWO P E N ops rest Q ⟨(d, .arr id (ep + 1)) :: st.slots, (id, .arr (ep + 1) t (xs.take p.toNat ++ xs.drop q.toNat)) :: st.mem⟩) : AWO P E N ops l Q st := by
  rintro a w ⟨β, hs⟩; subst hl
  have hdN : ∀ d', some d = some d' → d' < N := by
    intro d' e; cases e; exact Nat.le_of_ble_eq_true hd
  obtain ⟨fn, c, hfn, hname, hb⟩ := hS.fn; have hxr := opv_rep hs hx (fun p hp => by cases hp); have hyr := opv_rep hs hy (fun p hp => by cases hp); have hzr := opv_rep hs hz (fun p hp => by cases hp); generalize hxe : a.eval x = xv at hxr; generalize hye : a.eval y = yv at hyr; generalize hze : a.eval z = zv at hzr
  have hrun : ∀ w, (execOp a.eval ⟨some d, .call ⟨.value (.func f), #[x, y, z], ats⟩, type, pos, after, none⟩).run P w = .ok (.enter f #[xv, yv, zv]) w := by
    intro w; simp only [execOp, resolve, Deferred.ofValue, Sem.run_bind, Sem.run_pure, Result.andThen_ok, invoke, callFunc, run_program, hfn, hname, hb, Bool.false_eq_true, if_false, Act.eval]; simp [hxe, hye, hze]
  generalize hys : xs.take p.toNat ++ xs.drop q.toNat = ys at h
  have hylen : ys.length = xs.length - (q.toNat - p.toNat) := by
    rw [← hys, List.length_append, List.length_take, List.length_drop]; omega
  have hmemf : (⟨(d, .arr id (ep + 1)) :: st.slots, (id, .arr (ep + 1) t ys) :: st.mem⟩ : St).memf = setm st.memf id (.arr (ep + 1) t ys) := by
    funext y; show lookM _ y = _; simp only [lookM, setm]; rfl
  have henv : (⟨(d, .arr id (ep + 1)) :: st.slots, (id, .arr (ep + 1) t ys) :: st.mem⟩ : St).env = putE st.env (some d) (.arr id (ep + 1)) := by
    funext y; show lookS _ y = _; simp only [lookS, putE]; rfl
  rw [wpOpsIn_cons]; unfold wpOpIn; simp only [ho]; rw [if_pos (by rfl)]; refine ⟨fun _ _ => trivial, ?_⟩; rw [Oper.semAt_eq _ _ _ (fun c e => by cases e), hrun w, Oper.uponIn_enter]; refine ⟨fun h => (by cases h), callsIn_fence ?_⟩
  cases hyr with
  | int _ _ lo1 hi1 =>
  cases hzr with
  | int _ _ lo2 hi2 =>
  cases hxr with
  | arr _ _ v hmm h1 hv =>
    have hv := hv t xs hm; obtain ⟨hlim, ⟨hb0, hnil⟩ | ⟨b, D, cs, el, css, hb0, hh, hsz, hD, hel⟩⟩ := hs.blk id _ hm
    · subst hnil; simp only [List.length_nil] at hpq; omega
    · rw [hb0] at hv; obtain ⟨a0, rfl, hle, hp0⟩ := hv; obtain rfl := hp0 (.inl rfl); simp only [Nat.sub_zero, Nat.zero_mul] at *; obtain ⟨i0, rfl⟩ := Int.eq_ofNat_of_zero_le hpq.1; obtain ⟨j0, rfl⟩ := Int.eq_ofNat_of_zero_le (a := q) (by omega); simp only [Int.toNat_natCast] at hys hylen; have hsp := t.size_pos
      have hone : ∀ k, k < xs.length * t.size → ∃ v, cs[k]? = some v ∧ v.oneCell' = true := by
        intro k hk; have hkq : k / t.size < xs.length := Nat.div_lt_of_lt_mul (by rw [Nat.mul_comm]; exact hk); obtain ⟨c1, c2, c3⟩ := hel (k / t.size) hkq; (have hr : k % t.size < (css (k / t.size)).length := by rw [c1]; exact Nat.mod_lt _ hsp); have := c2 (k % t.size) _ (List.getElem?_eq_getElem hr)
        rw [show k / t.size * t.size + k % t.size = k from Nat.div_add_mod' k t.size] at this
        exact ⟨_, this, c3.one _ (List.getElem_mem hr)⟩
      refine (hS.row w b D cs el xs.length i0 j0 hh hsz hD hlim (by omega) (by omega) hone).mono ?_; rintro e w' ⟨rfl, g1, g2, g3, g4, g5, cs', g6, g7, g8⟩
      have hAA : ∀ c, allow E w β c → allow E w' β c ∧ w'.heap[c]? = w.heap[c]? := by
        rintro c ⟨h1, h2, h3⟩; refine ⟨⟨by omega, h2, h3⟩, g5 c h1 ?_⟩; rintro rfl; exact h3.1 id D hb0
      have hblk : RepBlk (allow E w' β) w' β (setm st.memf id (.arr (ep + 1) t ys)) id (.arr (ep + 1) t ys) := by
        refine ⟨by rw [hylen]; omega, .inr ⟨b, D, cs', el, fun k => css (if k < i0 then k else k + (j0 - i0)), hb0, g6, by rw [g7, hsz], by rw [hylen]; omega, fun k hk => ?_⟩⟩; subst hys; obtain ⟨hlt, e⟩ := del_get xs (show i0 < j0 by omega) (show j0 ≤ xs.length by omega) hk; obtain ⟨c1, c2, c3⟩ := hel _ hlt; refine ⟨c1, fun j v hj => ?_, ?_⟩
        · (have hj2 : j < t.size := by rw [← c1]; exact (List.getElem?_eq_some_iff.1 hj).1); have hk2 : k < xs.length - (j0 - i0) := by rw [← hylen]; exact hk
          have hkk : k * t.size + j < (xs.length - (j0 - i0)) * t.size := by
            have := Nat.mul_le_mul_right t.size (show k + 1 ≤ xs.length - (j0 - i0) by omega)
            rw [Nat.add_mul] at this
            omega
          rw [g8 _ hkk]; have c4 := c2 j v hj; by_cases hki : k < i0
          · rw [if_pos hki] at c4
            have : k * t.size + j < i0 * t.size := by
              have := Nat.mul_le_mul_right t.size (show k + 1 ≤ i0 by omega)
              rw [Nat.add_mul] at this
              omega
            rw [if_pos this]; exact c4
          · rw [if_neg hki] at c4
            have : ¬ k * t.size + j < i0 * t.size := by
              have := Nat.mul_le_mul_right t.size (show i0 ≤ k by omega); omega
            rw [if_neg this, show k * t.size + j + (j0 - i0) * t.size = (k + (j0 - i0)) * t.size + j by rw [Nat.add_mul]; omega]; exact c4
        · rw [e]; exact c3.mono hAA
      refine h _ w' ⟨β, ?_⟩; rw [hmemf, henv]; refine (hs.writeG (k := .arr (ep + 1) t ys) hm hb0 (Nat.le_succ ep) (fun e => absurd e (Nat.ne_of_lt (Nat.lt_succ_self ep))) rfl g1 g2 g3 g4 g5 hblk).put hdN ?_; refine .arr _ _ _ ⟨_, setm_same _ _ _, Nat.le_refl _⟩ rfl fun u zs hzs => ?_; rw [setm_same] at hzs; simp only [Option.some.injEq, Blk.arr.injEq, true_and] at hzs; obtain ⟨rfl, hzs⟩ := hzs; obtain rfl := eq_of_heq hzs; rw [hb0]; exact ⟨⟨b, 0, none⟩, by rw [hylen]; rfl, by rw [hylen]; omega, fun _ => by rw [Nat.zero_mul]⟩

end
end Go.Am
