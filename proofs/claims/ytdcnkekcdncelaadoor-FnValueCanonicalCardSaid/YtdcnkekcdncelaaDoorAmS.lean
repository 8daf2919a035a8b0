/-
  Am, part S: regions and code.
-/
import Derived.Test.YtdcnkekcdncelaaDoorAmR
set_option linter.all false
namespace Go.Am
open List
variable [U : Univ]

section
variable {E : Ent} {N : Nat} {env : Nat → SV} {mem : Nat → Option Blk} {a : Act} {w : World} {β : Bind} {P : Program} {C : Ctx} {ops : Array Oper} {Q : Exit → Act → World → Prop}

theorem StepR.env_eq (s : StepR) (env : Nat → SV) : s.env env = putE env s.dst s.val := by
  unfold StepR.env putE; cases s.dst <;> rfl

theorem yielded_bool {j g : Nat} {x : Bool} (hg : (ops[j]?).bind (·.dst) = some g) (hv : a.tmps.getD g undef = .bool x) : yielded ops a.tmps j = some x := by
  unfold yielded; rw [hg]; simp only [Option.bind_some]
  have : a.tmps[g]? = some (.bool x) := by
    cases h : a.tmps[g]? with
    | none => simp [h, undef] at hv
    | some v => simp [h] at hv; rw [hv]
  rw [this]

theorem yielded_undef {j g : Nat} (hg : (ops[j]?).bind (·.dst) = some g) (hv : a.tmps.getD g undef = undef) : yielded ops a.tmps j = none := by
  unfold yielded; rw [hg]; simp only [Option.bind_some]
  cases h : a.tmps[g]? with
  | none => rfl
  | some v =>
    simp [h] at hv; rw [hv]; rfl

theorem stepPlain_sound (hC : CtxOK P C) (h : SimB E N env mem a w β) {wr : Bool} {o : Oper} {pre : List Prop} {s : StepR} (hs : (stepPlain C wr env o pre).eval mem = some s) (hob : ∀ p ∈ s.ob, p) (hd : ∀ d, o.dst = some d → d < N)
    {K : Act → World → Prop} (hK : ∀ a' w', Sim E N (s.env env) (updm mem s.memw) a' w' → K a' w') : o.wpIn E.fence 0 P a w K Q ∧ ∀ p ∈ pre, p := by
  simp only [stepPlain] at hs; obtain ⟨r, hr, hs⟩ := Rd.bind_some hs; simp only [Rd.eval, Option.some.injEq] at hs; subst hs; refine ⟨oper_sound hC h hr (fun p hp => hob p (by simp [hp])) hd fun a' w' hsim => hK a' w' ?_, fun p hp => hob p (by simp [hp])⟩; rw [StepR.env_eq]; exact hsim

theorem stepCond_sound (hC : CtxOK P C) (h : SimB E N env mem a w β) {wr : Bool} {o : Oper} {p : Prop} {s : StepR} {i : Nat} (ho : ops[i]? = some o) (hs : (stepCond C wr env o p).eval mem = some s) (hob : ∀ p ∈ s.ob, p) (hd : ∀ d, o.dst = some d → d < N)
    (hw : p → Region.wanted o (yielded ops a.tmps) = true) (hn : ¬ p → Region.wanted o (yielded ops a.tmps) = false)
    {K : Act → World → Prop} (hK : ∀ a' w', Sim E N (s.env env) (updm mem s.memw) a' w' → K a' w') : wpOpIn E.fence 0 P ops Q i K a w := by
  simp only [stepCond] at hs; obtain ⟨r, hr, hs⟩ := Rd.bind_some hs
  cases hm : r.memw with
  | cons x l => rw [hm] at hs; simp [Rd.eval] at hs
  | nil =>
    rw [hm] at hs; simp only [Rd.eval, Option.some.injEq] at hs; subst hs; unfold wpOpIn; simp only [ho]; rcases Classical.em p with hp | hp
    · rw [if_pos (hw hp)]; refine (oper_sound hC h hr (fun q hq => hob (p → q) (mem_map.2 ⟨q, hq, rfl⟩) hp) hd ?_); rintro a' w' ⟨β', hsim⟩; refine hK a' w' ⟨β', ?_⟩; rw [StepR.env_eq]; rw [hm] at hsim
      cases hdst : o.dst with
      | none => rw [hdst] at hsim; exact hsim
      | some d =>
        rw [hdst] at hsim; refine { hsim with slot := fun sl => ?_ }; have := hsim.slot sl; simp only [putE] at this ⊢; by_cases hsd : sl = d
        · subst hsd; rw [upd_same] at this ⊢; exact .cnd _ _ _ (fun _ => this) (fun hn => absurd hp hn)
        · rw [upd_ne _ _ hsd] at this ⊢
          exact this
    · rw [hn hp]; simp only [Bool.false_eq_true, if_false]; refine ⟨fun _ _ => trivial, hK _ _ ⟨β, ?_⟩⟩; rw [StepR.env_eq]; exact h.put hd (.cnd _ _ _ (fun hp' => absurd hp' hp) (fun _ => rfl))

theorem stepGuard_sound (hC : CtxOK P C) (h : SimB E N env mem a w β) {wr : Bool} {kn : List (Nat × Bool)} {o : Oper} {g : Nat} {want x : Bool} {pre : List Prop} {p : Prop} {s : StepR} {i : Nat} (ho : ops[i]? = some o)
    (hs : (stepGuard C wr kn env o g want pre p x).eval mem = some s) (hob : ∀ p ∈ s.ob, p) (hd : ∀ d, o.dst = some d → d < N)
    (hpre : (∀ q ∈ pre, q) → (Region.wanted o (yielded ops a.tmps) = true ↔ x = want)) (hp : p ↔ ((∀ q ∈ pre, q) ∧ x = want))
    (hn : ¬ p → Region.wanted o (yielded ops a.tmps) = false)
    {K : Act → World → Prop} (hK : ∀ a' w', Sim E N (s.env env) (updm mem s.memw) a' w' → K a' w') : wpOpIn E.fence 0 P ops Q i K a w := by
  simp only [stepGuard] at hs; split at hs
  · rename_i b hb; split at hs
    · rename_i hbw; subst hbw; obtain ⟨h1, h2⟩ := stepPlain_sound (Q := Q) hC h hs hob hd hK; unfold wpOpIn; simp only [ho]; rw [(hpre (fun q hq => h2 q (by simp [hq]))).2 (h2 _ (by simp))]; exact h1
    · rename_i hbw; simp only [Rd.eval, Option.some.injEq] at hs; subst hs; have hxb : x = b := hob _ (by simp)
      have hwf : Region.wanted o (yielded ops a.tmps) = false := by
        rw [Bool.eq_false_iff]; intro hw; exact hbw (hxb ▸ (hpre (fun q hq => hob q (by simp [hq]))).1 hw)
      unfold wpOpIn; simp only [ho, hwf, Bool.false_eq_true, if_false]; refine ⟨fun _ _ => trivial, hK _ _ ⟨β, ?_⟩⟩; rw [StepR.env_eq]; exact h.put hd (.cnd _ _ _ (fun hf => hf.elim) (fun _ => rfl))
  · exact stepCond_sound hC h ho hs hob hd (fun hp' => (hpre (hp.1 hp').1).2 (hp.1 hp').2) hn hK

theorem stepAt_sound (hC : CtxOK P C) (h : SimB E N env mem a w β) {wr : Bool} {kn : List (Nat × Bool)} {i : Nat} {s : StepR} (hs : (stepAt C wr kn N ops env i).eval mem = some s) (hob : ∀ p ∈ s.ob, p)
    {K : Act → World → Prop} (hK : ∀ a' w', Sim E N (s.env env) (updm mem s.memw) a' w' → K a' w') : wpOpIn E.fence 0 P ops Q i K a w := by
  unfold stepAt at hs
  cases ho : ops[i]? with
  | none => rw [ho] at hs; simp [Rd.eval] at hs
  | some o =>
    rw [ho] at hs; simp only at hs; split at hs
    · rename_i hdd
      have hd : ∀ d, o.dst = some d → d < N := by
        intro d hd; rw [hd] at hdd; simpa using hdd
      cases hg : o.guard with
      | none =>
        rw [hg] at hs; simp only at hs; obtain ⟨h1, _⟩ := stepPlain_sound (Q := Q) hC h hs hob hd hK; unfold wpOpIn; simp only [ho, Region.wanted, hg, if_true]; exact h1
      | some jw =>
        obtain ⟨j, want⟩ := jw; rw [hg] at hs; simp only at hs
        cases hgs : (ops[j]?).bind (·.dst) with
        | none => rw [hgs] at hs; simp [Rd.eval] at hs
        | some g =>
          rw [hgs] at hs; simp only at hs; have hslot := h.peek g
          have hwant : ∀ {y : Bool}, a.tmps.getD g undef = .bool y → (Region.wanted o (yielded ops a.tmps) = true ↔ y = want) := by
            intro y hy; simp only [Region.wanted, hg, yielded_bool hgs hy]; simp
          split at hs
          · rename_i x hx; rw [hx] at hslot; have hv := hslot.bool_inv; refine stepGuard_sound hC h ho hs hob hd (fun _ => hwant hv) ⟨fun e => ⟨by simp, e⟩, fun e => e.2⟩ (fun hn => ?_) hK; rw [Bool.eq_false_iff]; intro hw; exact hn ((hwant hv).1 hw)
          · rename_i p x hx; rw [hx] at hslot
            cases hslot with
            | cnd _ _ v h1 h2 =>
              refine stepGuard_sound hC h ho hs hob hd (fun hpre => hwant (h1 (hpre p (by simp))).bool_inv) ⟨fun e => ⟨fun q hq => by rw [mem_singleton.1 hq]; exact e.1, e.2⟩, fun e => ⟨e.1 p (by simp), e.2⟩⟩ (fun hn => ?_) hK; rcases Classical.em p with hp | hp
              · rw [Bool.eq_false_iff]; intro hw; exact hn ⟨hp, (hwant (h1 hp).bool_inv).1 hw⟩
              · simp only [Region.wanted, hg, yielded_undef hgs (h2 hp)]; rfl
          · rename_i p hx; rw [hx] at hslot
            cases hslot with
            | cnd _ _ v h1 h2 =>
              simp only [Rd.eval, Option.some.injEq] at hs; subst hs; have hp : ¬ p := hob _ (by simp)
              have hwf : Region.wanted o (yielded ops a.tmps) = false := by
                simp only [Region.wanted, hg, yielded_undef hgs (h2 hp)]; rfl
              unfold wpOpIn; simp only [ho, hwf, Bool.false_eq_true, if_false]; refine ⟨fun _ _ => trivial, hK _ _ ⟨β, ?_⟩⟩; rw [StepR.env_eq]; exact h.put hd (.cnd _ _ _ (fun hf => hf.elim) (fun _ => rfl))
          · simp [Rd.eval] at hs
    · simp [Rd.eval] at hs

theorem runL_sound (hC : CtxOK P C) {wr : Bool} {kn : List (Nat × Bool)} : ∀ {is : List Nat} {env : Nat → SV} {mem : Nat → Option Blk} {a : Act} {w : World} {e : Nat → SV} {m : Nat → Option Blk} {ob : List Prop},
    Sim E N env mem a w → runL C wr kn N ops is env mem = some (e, m, ob) → (∀ p ∈ ob, p) → (∀ a' w', Sim E N e m a' w' → Q .normal a' w') → wpOpsIn E.fence 0 P ops Q is a w := by
  intro is
  induction is with
  | nil =>
    intro env mem a w e m ob h hs _ hQ; simp only [runL, Option.some.injEq, Prod.mk.injEq] at hs; obtain ⟨rfl, rfl, rfl⟩ := hs; exact hQ a w h
  | cons i is ih =>
    intro env mem a w e m ob h hs hob hQ; simp only [runL] at hs; split at hs
    · simp at hs
    · rename_i s hst; split at hs
      · simp at hs
      · rename_i e' m' ob' hr; simp only [Option.some.injEq, Prod.mk.injEq] at hs; obtain ⟨rfl, rfl, rfl⟩ := hs; obtain ⟨β, hb⟩ := h; rw [wpOpsIn_cons]; exact stepAt_sound hC hb hst (fun p hp => hob p (by simp [hp])) fun a' w' hsim => ih hsim hr (fun p hp => hob p (by simp [hp])) hQ

end
end Go.Am
