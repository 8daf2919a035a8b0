/-
  An, part Z: trees that lie open; slices.Delete on a tree.
-/
import Derived.Test.YtgbapklfgjnggaaAnU
import Derived.Test.YtgbapklfgjnggaaAnX
set_option linter.all false
namespace Go.Am
variable [U : Univ]
attribute [local irreducible] OFF

section
variable {E : Ent} {N : Nat} {P : Program} {ops : Array Oper} {Q : Exit → St → Prop} {st : St} {a : Act} {w : World} {β : Bind} {env : Nat → SV} {mem : Nat → Option Blk} {c : Code}

theorem memf_cons {sl : List (Nat × SV)} {id : Nat} {k : Blk} : (⟨sl, (id, k) :: st.mem⟩ : St).memf = setm st.memf id k := by
  funext y; show lookM _ y = _; simp only [lookM, setm]; rfl

theorem AW.holeS (id : Nat) {ep : Nat} {t : Ty} {xs : List t.den} (hm : st.memf id = some (.tree ep t xs)) (hne : xs ≠ [])
    (h : ∀ f : Nat → List Value, AW P E N c Q ⟨st.slots, (id, .hole ep t xs [] (some f)) :: st.mem⟩) : AW P E N c Q st := by
  rintro a w ⟨β, hw⟩; obtain ⟨hlim, ⟨_, hnil⟩ | ⟨b, D, cs, el, css, T, hb0, hh, hsz, hD, hT1, hT2, hel⟩⟩ := hw.blk id _ hm
  · exact absurd hnil hne
  refine h css a w ⟨β, ?_⟩; rw [memf_cons]
  exact hw.write (k := .hole ep t xs [] (some css)) hm hb0 (Nat.le_refl _) (fun _ => ⟨rfl, rfl⟩) rfl rfl rfl ⟨rfl, Nat.le_refl _⟩ rfl (fun _ _ => rfl)
    ⟨hlim, b, D, cs, el, css, T, hb0, hh, hsz, hD, ⟨fun f e k _ => by rw [Option.some.inj e], fun k v hk hv => (hel k hk).2.2.one v hv⟩, fun k c hk _ hc => hT1 k c hk hc, fun j k c hj hk _ _ => hT2 j k c hj hk, fun k hk => ⟨(hel k hk).1, (hel k hk).2.1, fun _ => (hel k hk).2.2⟩⟩

theorem AW.holeN (id : Nat) {ep : Nat} {t : Ty} {xs : List t.den} (hm : st.memf id = some (.tree ep t xs)) (hne : xs ≠ [])
    (h : AW P E N c Q ⟨st.slots, (id, .hole ep t xs [] none) :: st.mem⟩) : AW P E N c Q st := by
  rintro a w ⟨β, hw⟩; obtain ⟨hlim, ⟨_, hnil⟩ | ⟨b, D, cs, el, css, T, hb0, hh, hsz, hD, hT1, hT2, hel⟩⟩ := hw.blk id _ hm
  · exact absurd hnil hne
  refine h a w ⟨β, ?_⟩; rw [memf_cons]
  exact hw.write (k := .hole ep t xs [] none) hm hb0 (Nat.le_refl _) (fun _ => ⟨rfl, rfl⟩) rfl rfl rfl ⟨rfl, Nat.le_refl _⟩ rfl (fun _ _ => rfl)
    ⟨hlim, b, D, cs, el, css, T, hb0, hh, hsz, hD, ⟨by simp, fun k v hk hv => (hel k hk).2.2.one v hv⟩, fun k c hk _ hc => hT1 k c hk hc, fun j k c hj hk _ _ => hT2 j k c hj hk, fun k hk => ⟨(hel k hk).1, (hel k hk).2.1, fun _ => (hel k hk).2.2⟩⟩

theorem AWO.deleteT {f : FuncId} {t : Ty} (hS : DelC P f t.size) {i : Nat} {rest : List Nat} {d : Nat} {x y z : Operand} {ats : Array TypeId} {type : TypeId} {pos : String} {after : Array Edge}
    {id ep : Nat} {xs : List t.den} {hs : List Nat} {o : Option (Nat → List Value)} {p q : Int} {l : List Nat} (hl : l = i :: rest) (ho : ops[i]? = some ⟨some d, .call ⟨.value (.func f), #[x, y, z], ats⟩, type, pos, after, none⟩) (hd : dstOK N (some d) = true)
    (hx : opv st.env x = (.tr id ep, [])) (hy : opv st.env y = (.int .i64 p, [])) (hz : opv st.env z = (.int .i64 q, [])) (hm : st.memf id = some (.hole ep t xs hs o)) (hpq : 0 ≤ p ∧ p < q ∧ q ≤ (xs.length : Int))
    (hhs : ∀ k ∈ hs, p.toNat ≤ k ∧ k < q.toNat)
    (h : AWO P E N ops rest Q ⟨(d, .tr id (ep + 1)) :: st.slots, (id, .tree (ep + 1) t (xs.take p.toNat ++ xs.drop q.toNat)) :: st.mem⟩) : AWO P E N ops l Q st := by
  rintro a w ⟨β, hs0⟩; subst hl
  have hdN : ∀ d', some d = some d' → d' < N := by
    intro d' e; cases e; exact Nat.le_of_ble_eq_true hd
  obtain ⟨fn, c, hfn, hname, hb⟩ := hS.fn; have hxr := opv_rep hs0 hx (fun p hp => by cases hp); have hyr := opv_rep hs0 hy (fun p hp => by cases hp); have hzr := opv_rep hs0 hz (fun p hp => by cases hp); generalize hxe : a.eval x = xv at hxr; generalize hye : a.eval y = yv at hyr; generalize hze : a.eval z = zv at hzr
  have hrun : ∀ w, (execOp a.eval ⟨some d, .call ⟨.value (.func f), #[x, y, z], ats⟩, type, pos, after, none⟩).run P w = .ok (.enter f #[xv, yv, zv]) w := by
    intro w; simp only [execOp, resolve, Deferred.ofValue, Sem.run_bind, Sem.run_pure, Result.andThen_ok, invoke, callFunc, run_program, hfn, hname, hb, Bool.false_eq_true, if_false, Act.eval]; simp [hxe, hye, hze]
  generalize hys : xs.take p.toNat ++ xs.drop q.toNat = ys at h
  have hylen : ys.length = xs.length - (q.toNat - p.toNat) := by
    rw [← hys, List.length_append, List.length_take, List.length_drop]; omega
  have hmemf : (⟨(d, .tr id (ep + 1)) :: st.slots, (id, .tree (ep + 1) t ys) :: st.mem⟩ : St).memf = setm st.memf id (.tree (ep + 1) t ys) := memf_cons
  have henv : (⟨(d, .tr id (ep + 1)) :: st.slots, (id, .tree (ep + 1) t ys) :: st.mem⟩ : St).env = putE st.env (some d) (.tr id (ep + 1)) := by
    funext y; show lookS _ y = _; simp only [lookS, putE]; rfl
  rw [wpOpsIn_cons]; unfold wpOpIn; simp only [ho]; rw [if_pos (by rfl)]; refine ⟨fun _ _ => trivial, ?_⟩; rw [Oper.semAt_eq _ _ _ (fun c e => by cases e), hrun w, Oper.uponIn_enter]; refine ⟨fun h => (by cases h), callsIn_fence ?_⟩
  cases hyr with
  | int _ _ lo1 hi1 =>
  cases hzr with
  | int _ _ lo2 hi2 =>
  cases hxr with
  | tr _ _ v hmm h1 hv =>
    have hv := hv t xs (.ofH hm); obtain ⟨hlim, b, D, cs, el, css, T, hb0, hh, hsz, hD, h1c, hT1, hT2, hel⟩ := hs0.blk id _ hm; rw [hb0] at hv; obtain ⟨a0, rfl, hle, hp0⟩ := hv; obtain rfl := hp0 (.inl rfl); simp only [Nat.sub_zero, Nat.zero_mul] at *; obtain ⟨i0, rfl⟩ := Int.eq_ofNat_of_zero_le hpq.1; obtain ⟨j0, rfl⟩ := Int.eq_ofNat_of_zero_le (a := q) (by omega); simp only [Int.toNat_natCast] at hys hylen hhs; have hsp := t.size_pos
    -- what is taken lies in the heap as well: its cells are of one cell each
    have hone : ∀ k, k < xs.length * t.size → ∃ v, cs[k]? = some v ∧ v.oneCell' = true := by
      intro k hk; have hkq : k / t.size < xs.length := Nat.div_lt_of_lt_mul (by rw [Nat.mul_comm]; exact hk); obtain ⟨c1, c2, c3⟩ := hel (k / t.size) hkq; (have hr : k % t.size < (css (k / t.size)).length := by rw [c1]; exact Nat.mod_lt _ hsp); have := c2 (k % t.size) _ (List.getElem?_eq_getElem hr)
      rw [show k / t.size * t.size + k % t.size = k from Nat.div_add_mod' k t.size] at this
      exact ⟨_, this, h1c.2 _ _ hkq (List.getElem_mem hr)⟩
    refine (hS.row w b D cs el xs.length i0 j0 hh hsz hD hlim (by omega) (by omega) hone).mono ?_; rintro e w' ⟨rfl, g1, g2, g3, g4, g5, cs', g6, g7, g8⟩
    have hTb : ∀ k c, k < xs.length → k ∉ hs → T k c → c < w.heap.size ∧ c ≠ b := fun k c hk hn hc => by
      obtain ⟨_, o2, _, o4⟩ := hs0.own c id (hT1 k c hk hn hc); exact ⟨o2, fun e => o4 id D (by rw [e]; exact hb0)⟩
    have hg : ∀ k, k < ys.length → (if k < i0 then k else k + (j0 - i0)) < xs.length ∧ (if k < i0 then k else k + (j0 - i0)) ∉ hs := by
      intro k hk; rw [hylen] at hk; by_cases hki : k < i0
      · rw [if_pos hki]; exact ⟨by omega, fun hm => by have := hhs _ hm; omega⟩
      · rw [if_neg hki]; exact ⟨by omega, fun hm => by have := hhs _ hm; omega⟩
    have hginj : ∀ j k, (if j < i0 then j else j + (j0 - i0)) = (if k < i0 then k else k + (j0 - i0)) → j = k := by
      intro j k e; by_cases hj : j < i0 <;> by_cases hk : k < i0
      · rw [if_pos hj, if_pos hk] at e; exact e
      · rw [if_pos hj, if_neg hk] at e; omega
      · rw [if_neg hj, if_pos hk] at e; omega
      · rw [if_neg hj, if_neg hk] at e; omega
    have hblk : RepBlk (allow E w' β) w' β (setm st.memf id (.tree (ep + 1) t ys)) id (.tree (ep + 1) t ys) := by
      refine ⟨by rw [hylen]; omega, .inr ⟨b, D, cs', el, fun k => css (if k < i0 then k else k + (j0 - i0)), fun k => T (if k < i0 then k else k + (j0 - i0)), hb0, g6, by rw [g7, hsz], by rw [hylen]; omega,
        fun k c hk hc => hT1 _ c (hg k hk).1 (hg k hk).2 hc, fun j k c hj hk h1 h2 => hginj j k (hT2 _ _ c (hg j hj).1 (hg k hk).1 (hg j hj).2 (hg k hk).2 h1 h2), fun k hk => ?_⟩⟩
      have hg1 := hg k hk; subst hys; obtain ⟨hlt, e⟩ := del_get xs (show i0 < j0 by omega) (show j0 ≤ xs.length by omega) hk; obtain ⟨c1, c2, c3⟩ := hel _ hlt; refine ⟨c1, fun j v hj => ?_, ?_⟩
      · (have hj2 : j < t.size := by rw [← c1]; exact (List.getElem?_eq_some_iff.1 hj).1); have hk2 : k < xs.length - (j0 - i0) := by rw [← hylen]; exact hk
        have hkk : k * t.size + j < (xs.length - (j0 - i0)) * t.size := by
          have := Nat.mul_le_mul_right t.size (show k + 1 ≤ xs.length - (j0 - i0) by omega)
          rw [Nat.add_mul] at this
          omega
        rw [g8 _ hkk]; have c4 := c2 j v hj; by_cases hki : k < i0
        · rw [if_pos hki] at c4
          have : k * t.size + j < i0 * t.size := by
            have := Nat.mul_le_mul_right t.size (show k + 1 ≤ i0 by omega)
            rw [Nat.add_mul] at this
            omega
          rw [if_pos this]; exact c4
        · rw [if_neg hki] at c4
          have : ¬ k * t.size + j < i0 * t.size := by
            have := Nat.mul_le_mul_right t.size (show i0 ≤ k by omega); omega
          rw [if_neg this, show k * t.size + j + (j0 - i0) * t.size = (k + (j0 - i0)) * t.size + j by rw [Nat.add_mul]; omega]; exact c4
      · rw [e]; exact (c3 hg1.2).mono fun c hc => ⟨hc, g5 c (hTb _ c hlt hg1.2 hc).1 (hTb _ c hlt hg1.2 hc).2⟩
    refine h _ w' ⟨β, ?_⟩; rw [hmemf, henv]; refine (hs0.writeG (k := .tree (ep + 1) t ys) hm hb0 (Nat.le_succ ep) (fun e => absurd e (Nat.ne_of_lt (Nat.lt_succ_self ep))) rfl g1 g2 g3 g4 g5 hblk).put hdN ?_; refine .tr _ _ _ ⟨_, setm_same _ _ _, Nat.le_refl _⟩ rfl fun u zs hzs => ?_; rw [setm_same] at hzs; have hzs := hzs.at; simp only [Option.some.injEq, Blk.tree.injEq, true_and] at hzs; obtain ⟨rfl, hzs⟩ := hzs; obtain rfl := eq_of_heq hzs; rw [hb0]; exact ⟨⟨b, 0, none⟩, by rw [hylen]; rfl, by rw [hylen]; omega, fun _ => by rw [Nat.zero_mul]⟩

end
end Go.Am

namespace Go.Am
theorem ne_nil_of_len {α : Type} {xs : List α} (h : 0 < xs.length) : xs ≠ [] := by
  intro e; rw [e] at h; exact Nat.lt_irrefl _ h
end Go.Am
