/-
  Am, part T: what is kept; code.
-/
import Derived.Test.YtjcjpeckfikfkaaAmR
set_option linter.all false
namespace Go.Am
open List
variable [U : Univ]

section
variable {E : Ent} {N : Nat} {env : Nat → SV} {mem : Nat → Option Blk} {a : Act} {w : World} {β : Bind} {P : Program} {C : Ctx} {ops : Array Oper} {Q : Exit → Act → World → Prop}

theorem StepR.env_eq (s : StepR) (env : Nat → SV) : s.env env = putE env s.dst s.val := by
  unfold StepR.env putE; cases s.dst <;> rfl

theorem yielded_bool {j g : Nat} {x : Bool} (hg : (ops[j]?).bind (·.dst) = some g) (hv : a.tmps.getD g undef = .bool x) : yielded ops a.tmps j = some x := by
  unfold yielded; rw [hg]; simp only [Option.bind_some]
  have : a.tmps[g]? = some (.bool x) := by
    cases h : a.tmps[g]? with
    | none => simp [h, undef] at hv
    | some v => simp [h] at hv; rw [hv]
  rw [this]

theorem yielded_undef {j g : Nat} (hg : (ops[j]?).bind (·.dst) = some g) (hv : a.tmps.getD g undef = undef) : yielded ops a.tmps j = none := by
  unfold yielded; rw [hg]; simp only [Option.bind_some]
  cases h : a.tmps[g]? with
  | none => rfl
  | some v =>
    simp [h] at hv; rw [hv]; rfl

theorem stepPlain_sound (hC : CtxOK P C) (h : SimB E N env mem a w β) {wr : Bool} {o : Oper} {pre : List Prop} {s : StepR} (hs : (stepPlain C wr env o pre).eval mem = some s) (hob : ∀ p ∈ s.ob, p) (hd : ∀ d, o.dst = some d → d < N)
    {K : Act → World → Prop} (hK : ∀ a' w', Sim E N (s.env env) (updm mem s.memw) a' w' → K a' w') : o.wpIn E.fence 0 P a w K Q ∧ ∀ p ∈ pre, p := by
  simp only [stepPlain] at hs; obtain ⟨r, hr, hs⟩ := Rd.bind_some hs; simp only [Rd.eval, Option.some.injEq] at hs; subst hs; refine ⟨oper_sound hC h hr (fun p hp => hob p (by simp [hp])) hd fun a' w' hsim => hK a' w' ?_, fun p hp => hob p (by simp [hp])⟩; rw [StepR.env_eq]; exact hsim

theorem stepCond_sound (hC : CtxOK P C) (h : SimB E N env mem a w β) {wr : Bool} {o : Oper} {p : Prop} {s : StepR} {i : Nat} (ho : ops[i]? = some o) (hs : (stepCond C wr env o p).eval mem = some s) (hob : ∀ p ∈ s.ob, p) (hd : ∀ d, o.dst = some d → d < N)
    (hw : p → Region.wanted o (yielded ops a.tmps) = true) (hn : ¬ p → Region.wanted o (yielded ops a.tmps) = false)
    {K : Act → World → Prop} (hK : ∀ a' w', Sim E N (s.env env) (updm mem s.memw) a' w' → K a' w') : wpOpIn E.fence 0 P ops Q i K a w := by
  simp only [stepCond] at hs; obtain ⟨r, hr, hs⟩ := Rd.bind_some hs
  cases hm : r.memw with
  | cons x l => rw [hm] at hs; simp [Rd.eval] at hs
  | nil =>
    rw [hm] at hs; simp only [Rd.eval, Option.some.injEq] at hs; subst hs; unfold wpOpIn; simp only [ho]; rcases Classical.em p with hp | hp
    · rw [if_pos (hw hp)]; refine (oper_sound hC h hr (fun q hq => hob (p → q) (mem_map.2 ⟨q, hq, rfl⟩) hp) hd ?_); rintro a' w' ⟨β', hsim⟩; refine hK a' w' ⟨β', ?_⟩; rw [StepR.env_eq]; rw [hm] at hsim
      cases hdst : o.dst with
      | none => rw [hdst] at hsim; exact hsim
      | some d =>
        rw [hdst] at hsim; refine { hsim with slot := fun sl => ?_ }; have := hsim.slot sl; simp only [putE] at this ⊢; by_cases hsd : sl = d
        · subst hsd; rw [upd_same] at this ⊢; exact .cnd _ _ _ (fun _ => this) (fun hn => absurd hp hn)
        · rw [upd_ne _ _ hsd] at this ⊢
          exact this
    · rw [hn hp]; simp only [Bool.false_eq_true, if_false]; refine ⟨fun _ _ => trivial, hK _ _ ⟨β, ?_⟩⟩; rw [StepR.env_eq]; exact h.put hd (.cnd _ _ _ (fun hp' => absurd hp' hp) (fun _ => rfl))

theorem stepGuard_sound (hC : CtxOK P C) (h : SimB E N env mem a w β) {wr : Bool} {kn : List (Nat × Bool)} {o : Oper} {g : Nat} {want x : Bool} {pre : List Prop} {p : Prop} {s : StepR} {i : Nat} (ho : ops[i]? = some o)
    (hs : (stepGuard C wr kn env o g want pre p x).eval mem = some s) (hob : ∀ p ∈ s.ob, p) (hd : ∀ d, o.dst = some d → d < N)
    (hpre : (∀ q ∈ pre, q) → (Region.wanted o (yielded ops a.tmps) = true ↔ x = want)) (hp : p ↔ ((∀ q ∈ pre, q) ∧ x = want))
    (hn : ¬ p → Region.wanted o (yielded ops a.tmps) = false)
    {K : Act → World → Prop} (hK : ∀ a' w', Sim E N (s.env env) (updm mem s.memw) a' w' → K a' w') : wpOpIn E.fence 0 P ops Q i K a w := by
  simp only [stepGuard] at hs; split at hs
  · rename_i b hb; split at hs
    · rename_i hbw; subst hbw; obtain ⟨h1, h2⟩ := stepPlain_sound (Q := Q) hC h hs hob hd hK; unfold wpOpIn; simp only [ho]; rw [(hpre (fun q hq => h2 q (by simp [hq]))).2 (h2 _ (by simp))]; exact h1
    · rename_i hbw; simp only [Rd.eval, Option.some.injEq] at hs; subst hs; have hxb : x = b := hob _ (by simp)
      have hwf : Region.wanted o (yielded ops a.tmps) = false := by
        rw [Bool.eq_false_iff]; intro hw; exact hbw (hxb ▸ (hpre (fun q hq => hob q (by simp [hq]))).1 hw)
      unfold wpOpIn; simp only [ho, hwf, Bool.false_eq_true, if_false]; refine ⟨fun _ _ => trivial, hK _ _ ⟨β, ?_⟩⟩; rw [StepR.env_eq]; exact h.put hd (.cnd _ _ _ (fun hf => hf.elim) (fun _ => rfl))
  · exact stepCond_sound hC h ho hs hob hd (fun hp' => (hpre (hp.1 hp').1).2 (hp.1 hp').2) hn hK

theorem stepAt_sound (hC : CtxOK P C) (h : SimB E N env mem a w β) {wr : Bool} {kn : List (Nat × Bool)} {i : Nat} {s : StepR} (hs : (stepAt C wr kn N ops env i).eval mem = some s) (hob : ∀ p ∈ s.ob, p)
    {K : Act → World → Prop} (hK : ∀ a' w', Sim E N (s.env env) (updm mem s.memw) a' w' → K a' w') : wpOpIn E.fence 0 P ops Q i K a w := by
  unfold stepAt at hs
  cases ho : ops[i]? with
  | none => rw [ho] at hs; simp [Rd.eval] at hs
  | some o =>
    rw [ho] at hs; simp only at hs; split at hs
    · rename_i hdd
      have hd : ∀ d, o.dst = some d → d < N := by
        intro d hd; rw [hd] at hdd; simpa using hdd
      cases hg : o.guard with
      | none =>
        rw [hg] at hs; simp only at hs; obtain ⟨h1, _⟩ := stepPlain_sound (Q := Q) hC h hs hob hd hK; unfold wpOpIn; simp only [ho, Region.wanted, hg, if_true]; exact h1
      | some jw =>
        obtain ⟨j, want⟩ := jw; rw [hg] at hs; simp only at hs
        cases hgs : (ops[j]?).bind (·.dst) with
        | none => rw [hgs] at hs; simp [Rd.eval] at hs
        | some g =>
          rw [hgs] at hs; simp only at hs; have hslot := h.peek g
          have hwant : ∀ {y : Bool}, a.tmps.getD g undef = .bool y → (Region.wanted o (yielded ops a.tmps) = true ↔ y = want) := by
            intro y hy; simp only [Region.wanted, hg, yielded_bool hgs hy]; simp
          split at hs
          · rename_i x hx; rw [hx] at hslot; have hv := hslot.bool_inv; refine stepGuard_sound hC h ho hs hob hd (fun _ => hwant hv) ⟨fun e => ⟨by simp, e⟩, fun e => e.2⟩ (fun hn => ?_) hK; rw [Bool.eq_false_iff]; intro hw; exact hn ((hwant hv).1 hw)
          · rename_i p x hx; rw [hx] at hslot
            cases hslot with
            | cnd _ _ v h1 h2 =>
              refine stepGuard_sound hC h ho hs hob hd (fun hpre => hwant (h1 (hpre p (by simp))).bool_inv) ⟨fun e => ⟨fun q hq => by rw [mem_singleton.1 hq]; exact e.1, e.2⟩, fun e => ⟨e.1 p (by simp), e.2⟩⟩ (fun hn => ?_) hK; rcases Classical.em p with hp | hp
              · rw [Bool.eq_false_iff]; intro hw; exact hn ⟨hp, (hwant (h1 hp).bool_inv).1 hw⟩
              · simp only [Region.wanted, hg, yielded_undef hgs (h2 hp)]; rfl
          · rename_i p hx; rw [hx] at hslot
            cases hslot with
            | cnd _ _ v h1 h2 =>
              simp only [Rd.eval, Option.some.injEq] at hs; subst hs; have hp : ¬ p := hob _ (by simp)
              have hwf : Region.wanted o (yielded ops a.tmps) = false := by
                simp only [Region.wanted, hg, yielded_undef hgs (h2 hp)]; rfl
              unfold wpOpIn; simp only [ho, hwf, Bool.false_eq_true, if_false]; refine ⟨fun _ _ => trivial, hK _ _ ⟨β, ?_⟩⟩; rw [StepR.env_eq]; exact h.put hd (.cnd _ _ _ (fun hf => hf.elim) (fun _ => rfl))
          · simp [Rd.eval] at hs
    · simp [Rd.eval] at hs

theorem runL_sound (hC : CtxOK P C) {wr : Bool} {kn : List (Nat × Bool)} : ∀ {is : List Nat} {env : Nat → SV} {mem : Nat → Option Blk} {a : Act} {w : World} {e : Nat → SV} {m : Nat → Option Blk} {ob : List Prop},
    Sim E N env mem a w → runL C wr kn N ops is env mem = some (e, m, ob) → (∀ p ∈ ob, p) → (∀ a' w', Sim E N e m a' w' → Q .normal a' w') → wpOpsIn E.fence 0 P ops Q is a w := by
  intro is
  induction is with
  | nil =>
    intro env mem a w e m ob h hs _ hQ; simp only [runL, Option.some.injEq, Prod.mk.injEq] at hs; obtain ⟨rfl, rfl, rfl⟩ := hs; exact hQ a w h
  | cons i is ih =>
    intro env mem a w e m ob h hs hob hQ; simp only [runL] at hs; split at hs
    · simp at hs
    · rename_i s hst; split at hs
      · simp at hs
      · rename_i e' m' ob' hr; simp only [Option.some.injEq, Prod.mk.injEq] at hs; obtain ⟨rfl, rfl, rfl⟩ := hs; obtain ⟨β, hb⟩ := h; rw [wpOpsIn_cons]; exact stepAt_sound hC hb hst (fun p hp => hob p (by simp [hp])) fun a' w' hsim => ih hsim hr (fun p hp => hob p (by simp [hp])) hQ

end
end Go.Am


namespace Go.Am
open List
variable [U : Univ]

omit U in
theorem memN_iff {i : Nat} {l : List Nat} : memN i l = true ↔ i ∈ l := by
  induction l with
  | nil => simp [memN]
  | cons j l ih =>
    simp only [memN, Bool.or_eq_true, ih, mem_cons]; constructor
    · rintro (h | h)
      · exact .inl (Nat.eq_of_beq_eq_true h)
      · exact .inr h
    · rintro (h | h)
      · subst h; exact .inl (Nat.beq_refl _)
      · exact .inr h

theorem lookS_map (f : Nat → SV) (ks : List Nat) (i : Nat) : lookS (ks.map fun i => (i, f i)) i = if i ∈ ks then f i else .top := by
  induction ks with
  | nil => simp [lookS]
  | cons j ks ih =>
    simp only [map_cons, lookS]; by_cases h : i = j
    · subst h; rw [show Nat.beq i i = true from Nat.beq_refl i]; simp
    · (have : Nat.beq i j = false := by rw [Bool.eq_false_iff]; intro e; exact h (Nat.eq_of_beq_eq_true e)); rw [this, cond_false, ih]; simp [h]

theorem alive_some {m : Nat → Option Blk} {ms : List Nat} {id ep : Nat} (h : alive m ms id ep = true) : id ∈ ms ∧ ∃ k, m id = some k ∧ k.ep = ep := by
  simp only [alive, Bool.and_eq_true] at h; refine ⟨memN_iff.1 h.1, ?_⟩
  cases hm : m id with
  | none => rw [hm] at h; simp at h
  | some k =>
    rw [hm] at h; exact ⟨k, rfl, Nat.eq_of_beq_eq_true h.2⟩

section
variable {E : Ent} {N : Nat} {env : Nat → SV} {mem : Nat → Option Blk} {a : Act} {w : World} {β : Bind} {P : Program} {C : Ctx} {ops : Array Oper}

theorem normBlk_ep (m : Nat → Option Blk) (ms : List Nat) (k : Blk) : (normBlk m ms k).ep = nrm k.ep := by cases k <;> rfl

def Bind.only (β : Bind) (ms : List Nat) : Bind := ⟨fun i => if i ∈ ms then β i else none, fun b => match β.own b with | some i => if i ∈ ms then some i else none | none => none⟩

theorem Bind.only_own {β : Bind} {ms : List Nat} {b i : Nat} : (β.only ms).own b = some i ↔ β.own b = some i ∧ i ∈ ms := by
  show (match β.own b with | some i => if i ∈ ms then some i else none | none => none) = some i ↔ _
  cases h : β.own b with
  | none => simp
  | some j =>
    by_cases hj : j ∈ ms
    · simp only [if_pos hj, Option.some.injEq]; exact ⟨fun e => by subst e; exact ⟨rfl, hj⟩, fun e => e.1⟩
    · simp only [if_neg hj, Option.some.injEq]; constructor
      · intro e; cases e
      · rintro ⟨rfl, hi⟩; exact absurd hi hj

theorem normSV_rep {A A' : Nat → Prop} {ms : List Nat} {mem' : Nat → Option Blk} {β' : Bind} (hA : ∀ b, A b → A' b)
    (hm : ∀ i, i ∈ ms → mem' i = (mem i).map (normBlk mem ms)) (hβ : ∀ i, i ∈ ms → β' i = β i) :
    ∀ (f : Nat) {sv : SV} {v : Value}, RepSV A w β mem sv v → RepSV A' w β' mem' (normSV mem ms f sv) v := by
  have hm' : ∀ {id ep : Nat}, alive mem ms id ep = true → ∃ k', mem' id = some k' ∧ nrm ep ≤ k'.ep := by
    intro id ep h; obtain ⟨h1, k, h2, h3⟩ := alive_some h; exact ⟨normBlk mem ms k, by rw [hm id h1, h2]; rfl, by rw [normBlk_ep, h3]; exact Nat.le_refl _⟩
  have back : ∀ {id ep : Nat} {t : Ty} {xs : List t.den}, alive mem ms id ep = true → mem' id = some (.arr (nrm ep) t xs) → mem id = some (.arr ep t xs) := by
    intro id ep t xs h he; obtain ⟨h1, k, h2, h3⟩ := alive_some h; rw [hm id h1, h2] at he; simp only [Option.map_some, Option.some.injEq] at he
    cases k with
    | arr e u ys =>
      simp only [normBlk, Blk.arr.injEq] at he; obtain ⟨_, rfl, he⟩ := he; obtain rfl := eq_of_heq he; simp only [Blk.ep] at h3; rw [h2, h3]
    | box => simp [normBlk] at he
    | tree => simp [normBlk] at he
    | dead => simp [normBlk] at he
    | mp => simp [normBlk] at he
    | hole => simp [normBlk] at he
  have backT : ∀ {id ep : Nat} {t : Ty} {xs : List t.den}, alive mem ms id ep = true → mem' id = some (.tree (nrm ep) t xs) → mem id = some (.tree ep t xs) := by
    intro id ep t xs h he; obtain ⟨h1, k, h2, h3⟩ := alive_some h; rw [hm id h1, h2] at he; simp only [Option.map_some, Option.some.injEq] at he
    cases k with
    | tree e u ys =>
      simp only [normBlk, Blk.tree.injEq] at he; obtain ⟨_, rfl, he⟩ := he; obtain rfl := eq_of_heq he; simp only [Blk.ep] at h3; rw [h2, h3]
    | box => simp [normBlk] at he
    | arr => simp [normBlk] at he
    | dead => simp [normBlk] at he
    | mp => simp [normBlk] at he
    | hole => simp [normBlk] at he
  have backTA : ∀ {id ep : Nat} {t : Ty} {xs : List t.den}, alive mem ms id ep = true → TreeAt (mem' id) (nrm ep) t xs → TreeAt (mem id) ep t xs := by
    intro id ep t xs h he; rcases he.inv with he | ⟨hs, o, he⟩
    · exact .of (backT h he)
    · obtain ⟨h1, k, h2, h3⟩ := alive_some h; rw [hm id h1, h2] at he; simp only [Option.map_some, Option.some.injEq] at he
      cases k with
      | hole e u ys hs' o' =>
        simp only [normBlk, Blk.hole.injEq] at he; obtain ⟨_, rfl, he, rfl, rfl⟩ := he; obtain rfl := eq_of_heq he; simp only [Blk.ep] at h3; rw [h2, ← h3]; exact .hole _ _ _ _ _
      | box => simp [normBlk] at he
      | arr => simp [normBlk] at he
      | tree => simp [normBlk] at he
      | dead => simp [normBlk] at he
      | mp => simp [normBlk] at he
  have backB : ∀ {id ep : Nat} {cells : List SV}, alive mem ms id ep = true → mem' id = some (.box (nrm ep) cells) → ∃ c, mem id = some (.box ep c) := by
    intro id ep cells h he; obtain ⟨h1, k, h2, h3⟩ := alive_some h; rw [hm id h1, h2] at he; simp only [Option.map_some, Option.some.injEq] at he
    cases k with
    | box e c =>
      simp only [Blk.ep] at h3; exact ⟨c, by rw [h2, h3]⟩
    | arr => simp [normBlk] at he
    | tree => simp [normBlk] at he
    | dead => simp [normBlk] at he
    | mp => simp [normBlk] at he
    | hole => simp [normBlk] at he
  have backm : ∀ {id ep : Nat} {l : List (Int × Int)}, alive mem ms id ep = true → mem' id = some (.mp (nrm ep) l) → mem id = some (.mp ep l) := by
    intro id ep l h he; obtain ⟨h1, k, h2, h3⟩ := alive_some h; rw [hm id h1, h2] at he; simp only [Option.map_some, Option.some.injEq] at he
    cases k with
    | hole => simp [normBlk] at he
    | mp e l' =>
      simp only [normBlk, Blk.mp.injEq] at he; obtain ⟨_, rfl⟩ := he; simp only [Blk.ep] at h3; rw [h2, h3]
    | box => simp [normBlk] at he
    | arr => simp [normBlk] at he
    | tree => simp [normBlk] at he
    | dead => simp [normBlk] at he
  intro f
  induction f with
  | zero =>
    intro sv v h
    cases h with
    | top v => exact .top v
    | int k n lo hi => exact .int k n lo hi
    | bool b => exact .bool b
    | str s h => exact .str s h
    | data t x v h => exact .data t x v (h.mono fun b hb => ⟨hA b hb, rfl⟩)
    | nilsl => exact .nilsl
    | nilptr => exact .nilptr
    | err0 => exact .err0
    | err1 T v => exact .err1 T v
    | el id i cs => exact .el id i cs
    | mp id ep b hx h =>
      simp only [normSV]
      cases hal : alive mem ms id ep with
      | false => exact .top _
      | true => exact .mp id _ b (hm' hal) fun l hxs => by rw [hβ id (alive_some hal).1]; exact h l (backm hal hxs)
    | arr id ep v hx h1 h =>
      simp only [normSV]
      cases hal : alive mem ms id ep with
      | false => exact .top v
      | true => exact .arr id _ v (hm' hal) h1 fun t xs hxs => by rw [hβ id (alive_some hal).1]; exact h t xs (back hal hxs)
    | sub id ep off len v hx h1 h =>
      simp only [normSV]
      cases hal : alive mem ms id ep with
      | false => exact .top v
      | true => exact .sub id _ off len v (hm' hal) h1 fun t xs hxs => by rw [hβ id (alive_some hal).1]; exact h t xs (back hal hxs)
    | ref id ep off b hx h =>
      simp only [normSV]
      cases hal : alive mem ms id ep with
      | false => exact .top _
      | true =>
        refine .ref id _ off b (hm' hal) fun cells hc => ?_; obtain ⟨c, hc⟩ := backB hal hc; rw [hβ id (alive_some hal).1]; exact h c hc
    | bsl id ep off len b cap hle hx h =>
      simp only [normSV]
      cases hal : alive mem ms id ep with
      | false => exact .top _
      | true =>
        refine .bsl id _ off len b cap hle (hm' hal) fun cells hc => ?_; obtain ⟨c, hc⟩ := backB hal hc; rw [hβ id (alive_some hal).1]; exact h c hc
    | eref id ep i p b o hx h =>
      simp only [normSV]
      cases hal : alive mem ms id ep with
      | false => exact .top _
      | true => exact .eref id _ i p b o (hm' hal) fun t xs hxs => by rw [hβ id (alive_some hal).1]; exact h t xs (back hal hxs)
    | tr id ep v hx h1 h =>
      simp only [normSV]
      cases hal : alive mem ms id ep with
      | false => exact .top v
      | true => exact .tr id _ v (hm' hal) h1 fun t xs hxs => by rw [hβ id (alive_some hal).1]; exact h t xs (backTA hal hxs)
    | tref id ep i p b o hx h =>
      simp only [normSV]
      cases hal : alive mem ms id ep with
      | false => exact .top _
      | true => exact .tref id _ i p b o (hm' hal) fun t xs hxs => by rw [hβ id (alive_some hal).1]; exact h t xs (backTA hal hxs)
    | dref t x b off cs hb hc h => exact .dref t x b off cs (hA b hb) hc (h.mono fun b hb => ⟨hA b hb, rfl⟩)
    | agg => exact .top _
    | tup => exact .top _
    | clo => exact .top _
    | cnd => exact .top _
  | succ f ih =>
    intro sv v h
    cases h with
    | top v => exact .top v
    | int k n lo hi => exact .int k n lo hi
    | bool b => exact .bool b
    | str s h => exact .str s h
    | data t x v h => exact .data t x v (h.mono fun b hb => ⟨hA b hb, rfl⟩)
    | nilsl => exact .nilsl
    | nilptr => exact .nilptr
    | err0 => exact .err0
    | err1 T v => exact .err1 T v
    | el id i cs => exact .el id i cs
    | mp id ep b hx h =>
      simp only [normSV]
      cases hal : alive mem ms id ep with
      | false => exact .top _
      | true => exact .mp id _ b (hm' hal) fun l hxs => by rw [hβ id (alive_some hal).1]; exact h l (backm hal hxs)
    | arr id ep v hx h1 h =>
      simp only [normSV]
      cases hal : alive mem ms id ep with
      | false => exact .top v
      | true => exact .arr id _ v (hm' hal) h1 fun t xs hxs => by rw [hβ id (alive_some hal).1]; exact h t xs (back hal hxs)
    | sub id ep off len v hx h1 h =>
      simp only [normSV]
      cases hal : alive mem ms id ep with
      | false => exact .top v
      | true => exact .sub id _ off len v (hm' hal) h1 fun t xs hxs => by rw [hβ id (alive_some hal).1]; exact h t xs (back hal hxs)
    | ref id ep off b hx h =>
      simp only [normSV]
      cases hal : alive mem ms id ep with
      | false => exact .top _
      | true =>
        refine .ref id _ off b (hm' hal) fun cells hc => ?_; obtain ⟨c, hc⟩ := backB hal hc; rw [hβ id (alive_some hal).1]; exact h c hc
    | bsl id ep off len b cap hle hx h =>
      simp only [normSV]
      cases hal : alive mem ms id ep with
      | false => exact .top _
      | true =>
        refine .bsl id _ off len b cap hle (hm' hal) fun cells hc => ?_; obtain ⟨c, hc⟩ := backB hal hc; rw [hβ id (alive_some hal).1]; exact h c hc
    | eref id ep i p b o hx h =>
      simp only [normSV]
      cases hal : alive mem ms id ep with
      | false => exact .top _
      | true => exact .eref id _ i p b o (hm' hal) fun t xs hxs => by rw [hβ id (alive_some hal).1]; exact h t xs (back hal hxs)
    | tr id ep v hx h1 h =>
      simp only [normSV]
      cases hal : alive mem ms id ep with
      | false => exact .top v
      | true => exact .tr id _ v (hm' hal) h1 fun t xs hxs => by rw [hβ id (alive_some hal).1]; exact h t xs (backTA hal hxs)
    | tref id ep i p b o hx h =>
      simp only [normSV]
      cases hal : alive mem ms id ep with
      | false => exact .top _
      | true => exact .tref id _ i p b o (hm' hal) fun t xs hxs => by rw [hβ id (alive_some hal).1]; exact h t xs (backTA hal hxs)
    | dref t x b off cs hb hc h => exact .dref t x b off cs (hA b hb) hc (h.mono fun b hb => ⟨hA b hb, rfl⟩)
    | agg l vs hl h1 h =>
      simp only [normSV]; refine .agg _ vs (by simpa using hl) h1 fun i sv v hi hj => ?_; rw [getElem?_map] at hi
      cases hli : l[i]? with
      | none => rw [hli] at hi; simp at hi
      | some s =>
        rw [hli] at hi; simp only [Option.map_some, Option.some.injEq] at hi; subst hi; exact ih (h i s v hli hj)
    | tup l vs hl h =>
      simp only [normSV]; refine .tup _ vs (by simpa using hl) fun i sv v hi hj => ?_; rw [getElem?_map] at hi
      cases hli : l[i]? with
      | none => rw [hli] at hi; simp at hi
      | some s =>
        rw [hli] at hi; simp only [Option.map_some, Option.some.injEq] at hi; subst hi; exact ih (h i s v hli hj)
    | clo g l vs hl h =>
      simp only [normSV]; refine .clo g _ vs (by simpa using hl) fun i sv v hi hj => ?_; rw [getElem?_map] at hi
      cases hli : l[i]? with
      | none => rw [hli] at hi; simp at hi
      | some s =>
        rw [hli] at hi; simp only [Option.map_some, Option.some.injEq] at hi; subst hi; exact ih (h i s v hli hj)
    | cnd => exact .top _

theorem SimB.norm (h : SimB E N env mem a w β) {ms : List Nat} {mem' : Nat → Option Blk} {env' : Nat → SV}
    (hin : ∀ i, i ∈ ms → mem' i = (mem i).map (normBlk mem ms)) (hout : ∀ i, i ∉ ms → mem' i = none) (henv : ∀ s, env' s = normSV mem ms fuel (env s) ∨ env' s = .top) :
    Sim E N env' mem' a w := by
  refine ⟨β.only ms, ?_⟩
  have hA : ∀ b, allow E w β b → allow E w (β.only ms) b := by
    rintro b ⟨h1, h2, h3, h4⟩; refine ⟨h1, h2, fun i D e => ?_, ?_⟩
    · change (if i ∈ ms then β i else none) = _ at e; split at e
      · exact h3 i D e
      · simp at e
    · cases hx : (β.only ms).own b with
      | none => rfl
      | some i =>
        have := (Bind.only_own.1 hx).1
        rw [h4] at this
        cases this
  have hβ : ∀ i, i ∈ ms → (β.only ms) i = β i := fun i hi => if_pos hi; have rep := fun f {sv : SV} {v : Value} (hr : RepSV (allow E w β) w β mem sv v) => normSV_rep (w := w) hA hin hβ f hr
  exact {
    defers := h.defers.mono fun b hb => ⟨hA b hb, rfl⟩, size := h.size, hN := h.hN, os := h.os, tape := h.tape, output := h.output, grow := h.grow, old := h.old
    dom := by
      intro i b D e; change (if i ∈ ms then β i else none) = _ at e; split at e
      · rename_i hi; obtain ⟨⟨k, hk, hkb⟩, d2, d3⟩ := h.dom i b D e; refine ⟨⟨normBlk mem ms k, by rw [hin i hi, hk]; rfl, fun hb => ?_⟩, d2, d3⟩; have := hkb hb; cases k <;> simp_all [normBlk, Blk.isBox]
      · simp at e
    inj := by
      intro i j b D D' e1 e2; change (if i ∈ ms then β i else none) = _ at e1; change (if j ∈ ms then β j else none) = _ at e2; split at e1
      · split at e2
        · exact h.inj i j b D D' e1 e2
        · simp at e2
      · simp at e1
    own := by
      intro b i e; obtain ⟨e, hi⟩ := Bind.only_own.1 e; obtain ⟨⟨k, hk, ht⟩, o2, o3, o4⟩ := h.own b i e; (refine ⟨⟨normBlk mem ms k, by rw [hin i hi, hk]; rfl, by cases k <;> first | rfl | cases ht⟩, o2, o3, fun j C ej => ?_⟩); change (if j ∈ ms then β j else none) = _ at ej; split at ej
      · exact o4 j C ej
      · simp at ej
    blk := by
      intro i k' hk'; by_cases hi : i ∈ ms
      · rw [hin i hi] at hk'
        cases hk : mem i with
        | none => rw [hk] at hk'; simp at hk'
        | some k =>
          rw [hk] at hk'; simp only [Option.map_some, Option.some.injEq] at hk'; subst hk'; have hb := h.blk i k hk
          cases k with
          | box ep cells =>
            obtain ⟨b, D, cs, el, h1, h2, h3, h4⟩ := hb; refine ⟨b, D, cs, el, by rw [hβ i hi]; exact h1, h2, by simpa using h3, fun j sv hj => ?_⟩; rw [getElem?_map] at hj
            cases hcj : cells[j]? with
            | none => rw [hcj] at hj; simp at hj
            | some s =>
              rw [hcj] at hj; simp only [Option.map_some, Option.some.injEq] at hj; subst hj; obtain ⟨v, hv, hv1, hr⟩ := h4 j s hcj; exact ⟨v, hv, hv1, rep fuel hr⟩
          | arr ep t xs =>
            obtain ⟨hl, ⟨h1, h2⟩ | ⟨b, D, cs, el, css, h1, h2, h3, h4, h5⟩⟩ := hb
            · exact ⟨hl, .inl ⟨by rw [hβ i hi]; exact h1, h2⟩⟩
            · refine ⟨hl, .inr ⟨b, D, cs, el, css, by rw [hβ i hi]; exact h1, h2, h3, h4, fun k hk => ?_⟩⟩; obtain ⟨e1, e2, e3⟩ := h5 k hk; exact ⟨e1, e2, e3.mono fun b hb => ⟨hA b hb, rfl⟩⟩
          | tree ep t xs =>
            obtain ⟨hl, ⟨h1, h2⟩ | ⟨b, D, cs, el, css, T, h1, h2, h3, h4, h5, h6, h7⟩⟩ := hb
            · exact ⟨hl, .inl ⟨by rw [hβ i hi]; exact h1, h2⟩⟩
            · exact ⟨hl, .inr ⟨b, D, cs, el, css, T, by rw [hβ i hi]; exact h1, h2, h3, h4, fun k c hk hT => Bind.only_own.2 ⟨h5 k c hk hT, hi⟩, h6, h7⟩⟩
          | dead ep =>
            show (β.only ms) i = none; rw [hβ i hi]; exact hb
          | hole ep t xs hs o =>
            obtain ⟨hl, b, D, cs, el, css, T, h1, h2, h3, h4, h0, h5, h6, h7⟩ := hb; exact ⟨hl, b, D, cs, el, css, T, by rw [hβ i hi]; exact h1, h2, h3, h4, h0, fun k c hk hn hT => Bind.only_own.2 ⟨h5 k c hk hn hT, hi⟩, h6, h7⟩
          | mp ep l =>
            obtain ⟨b, D, es, clk, h1, h2⟩ := hb; exact ⟨b, D, es, clk, by rw [hβ i hi]; exact h1, h2⟩
      · rw [hout i hi] at hk'; simp at hk'
    par := by
      intro i c hc; by_cases hi : i ∈ ms
      · rw [hin i hi] at hc
        cases hk : mem i with
        | none => rw [hk] at hc; simp at hc
        | some k =>
          rw [hk] at hc; simp only [Option.map_some, Option.some.injEq] at hc
          cases k with
          | box ep cells =>
            simp only [normBlk, Blk.box.injEq] at hc
            have : ep = 0 := by
              cases ep with
              | zero => rfl
              | succ n => exact absurd hc.1 (by simp [nrm])
            subst this
            obtain ⟨b, D, h1, h2⟩ := h.par i cells hk; exact ⟨b, D, h1, by rw [hβ i hi]; exact h2⟩
          | arr => simp [normBlk] at hc
          | tree => simp [normBlk] at hc
          | dead => simp [normBlk] at hc
          | mp => simp [normBlk] at hc
          | hole => simp [normBlk] at hc
      · rw [hout i hi] at hc; simp at hc
    slot := by
      intro s; rcases henv s with e | e
      · rw [e]; exact rep fuel (h.slot s)
      · rw [e]; exact .top _ }

theorem keepM_spec {m : Nat → Option Blk} {all : List Nat} : ∀ {ms : List Nat} {l : List (Nat × Blk)}, keepM m all ms = some l → (∀ i, i ∈ ms → lookM l i = (m i).map (normBlk m all)) ∧ ∀ i, i ∉ ms → lookM l i = none := by
  intro ms
  induction ms with
  | nil =>
    intro l h; simp only [keepM, Option.some.injEq] at h; subst h; exact ⟨by simp, fun _ _ => rfl⟩
  | cons j ms ih =>
    intro l h; simp only [keepM] at h; split at h
    · rename_i k hk; split at h
      · rename_i r hr; obtain rfl := Option.some.inj h; obtain ⟨h1, h2⟩ := ih hr; refine ⟨fun i hi => ?_, fun i hi => ?_⟩
        · simp only [lookM]; by_cases hij : i = j
          · subst hij; rw [show Nat.beq i i = true from Nat.beq_refl i, cond_true, hk]; rfl
          · (have : Nat.beq i j = false := by rw [Bool.eq_false_iff]; intro e; exact hij (Nat.eq_of_beq_eq_true e)); rw [this, cond_false]
            exact h1 i (by rcases mem_cons.1 hi with hi | hi
                           · exact absurd hi hij
                           · exact hi)
        · simp only [mem_cons, not_or] at hi; simp only [lookM]; (have : Nat.beq i j = false := by rw [Bool.eq_false_iff]; intro e; exact hi.1 (Nat.eq_of_beq_eq_true e)); rw [this, cond_false]; exact h2 i hi.2
      · simp at h
    · simp at h

theorem keep_sound {ks ms : List Nat} {st : St} (hk : keep ks ms env mem = some st) (h : Sim E N env mem a w) : Sim E N st.env st.memf a w := by
  obtain ⟨β, h⟩ := h; simp only [keep] at hk; split at hk
  · rename_i l hl; obtain rfl := Option.some.inj hk; obtain ⟨h1, h2⟩ := keepM_spec hl; refine h.norm (ms := ms) h1 h2 fun s => ?_; simp only [St.env]; rw [lookS_map (fun i => normSV mem ms fuel (env i))]; split
    · exact .inl rfl
    · exact .inr rfl
  · simp at hk

def CQ (E : Ent) (N : Nat) (Q : Exit → St → Prop) (e : Exit) (a : Act) (w : World) : Prop := ∃ st : St, Sim E N st.env st.memf a w ∧ Q e st

def AW (P : Program) (E : Ent) (N : Nat) (c : Code) (Q : Exit → St → Prop) (st : St) : Prop :=
  ∀ a w, Sim E N st.env st.memf a w → c.wpIn E.fence 0 P (CQ E N Q) a w

def thenQ (next : St → Prop) (Q : Exit → St → Prop) : Exit → St → Prop
  | .normal, st => next st
  | e, st => Q e st

def blockQ (id : Nat) (Q : Exit → St → Prop) : Exit → St → Prop
  | .exit id', st => bif Nat.beq id' id then Q .normal st else Q (.exit id') st
  | e, st => Q e st

variable {Q Q' : Exit → St → Prop} {st st' : St}

theorem AW.mono {c : Code} (h : AW P E N c Q st) (hq : ∀ e st, Q e st → Q' e st) : AW P E N c Q' st :=
  fun a w hs => wpIn_mono (h a w hs) fun e _ _ ⟨st, h1, h2⟩ => ⟨st, h1, hq e st h2⟩

theorem AW.seq {x y : Code} (h : AW P E N x (thenQ (AW P E N y Q) Q) st) : AW P E N (.seq x y) Q st := by
  intro a w hs; refine wpIn_seq (wpIn_mono (h a w hs) ?_); rintro e a' w' ⟨st', h1, h2⟩
  cases e with
  | normal => exact h2 a' w' h1
  | _ => exact ⟨st', h1, h2⟩

theorem AW.skip (h : Q .normal st) : AW P E N .skip Q st := fun _ _ hs => wpIn_skip ⟨st, hs, h⟩
theorem AW.ret (h : Q .ret st) : AW P E N .ret Q st := fun _ _ hs => wpIn_ret ⟨st, hs, h⟩
theorem AW.exit {id : Nat} (h : Q (.exit id) st) : AW P E N (.exit id) Q st := fun _ _ hs => wpIn_exit ⟨st, hs, h⟩
theorem AW.block {id : Nat} {c : Code} (h : AW P E N c (blockQ id Q) st) : AW P E N (.block id c) Q st := by
  intro a w hs; refine wpIn_block (wpIn_mono (h a w hs) ?_); rintro e a' w' ⟨st', h1, h2⟩
  cases e with
  | exit id' =>
    simp only [Exit.inBlock]; simp only [blockQ] at h2; by_cases hid : id' = id
    · subst hid; rw [show Nat.beq id' id' = true from Nat.beq_refl id'] at h2; rw [if_pos rfl]; exact ⟨st', h1, h2⟩
    · (have : Nat.beq id' id = false := by rw [Bool.eq_false_iff]; intro e; exact hid (Nat.eq_of_beq_eq_true e)); rw [this] at h2; rw [if_neg hid]; exact ⟨st', h1, h2⟩
  | _ => exact ⟨st', h1, h2⟩

theorem AW.cond {t : Nat} {b : Bool} {x y : Code} (hb : peek st.env t = .bool b) (ht : b = true → AW P E N x Q st) (hf : b = false → AW P E N y Q st) : AW P E N (.cond (.tmp t) x y) Q st := by
  rintro a w ⟨β, hs⟩
  have hv : a.eval (.tmp t) = .bool b := by
    have := hs.peek t
    rw [hb] at this
    exact this.bool_inv
  exact wpIn_cond_split hv (fun e => ht e a w ⟨β, hs⟩) (fun e => hf e a w ⟨β, hs⟩)

theorem AW.loop {α : Type} {c : Code} (S : α → St) (R : α → Prop) (μ : α → Nat) (x0 : α) (hst : st = S x0) (h0 : R x0)
    (round : ∀ x, R x → AW P E N c (thenQ (fun st' => ∃ x', st' = S x' ∧ R x' ∧ μ x' < μ x) Q) (S x)) : AW P E N (.loop c) Q st := by
  intro a w hs b k cs hro hb hr
  have key : ∀ n x, μ x = n → R x → ∀ a w, Sim E N (S x).env (S x).memf a w →
      ∃ e a' w', CQ E N Q e a' w' ∧ ArrivesIn (Machine.fenced P E.fence) P (lone (b.atR a (.code c :: .inLoop c :: k)) cs w) b k cs e a' w' := by
    intro n
    induction n using Nat.strongRecOn with
    | _ n ih =>
      intro x hn hR a w hs; obtain ⟨e, a₁, w₁, ⟨st₁, hs₁, hq⟩, harr⟩ := round x hR a w hs b (.inLoop c :: k) cs hro hb hr
      cases e with
      | normal =>
        obtain ⟨x', rfl, hR', hlt⟩ := hq; obtain ⟨e₂, a₂, w₂, hq₂, harr₂⟩ := ih (μ x') (hn ▸ hlt) x' rfl hR' a₁ w₁ hs₁; exact ⟨e₂, a₂, w₂, hq₂, .of_steps (StepsIn.trans harr (.one (fenced_calm hb hr rfl) stepR_inLoop)) harr₂⟩
      | exit id => exact ⟨_, a₁, w₁, ⟨st₁, hs₁, hq⟩, .pass (x := .inLoop c) rfl (fun _ _ => .inl (by simp)) harr⟩
      | goto l => exact ⟨_, a₁, w₁, ⟨st₁, hs₁, hq⟩, .pass (x := .inLoop c) rfl (fun _ _ => .inl (by simp)) harr⟩
      | ret => exact ⟨_, a₁, w₁, ⟨st₁, hs₁, hq⟩, .pass (x := .inLoop c) rfl (fun _ _ => .inl (by simp)) harr⟩
      | panic ch => exact ⟨_, a₁, w₁, ⟨st₁, hs₁, hq⟩, .pass (x := .inLoop c) rfl (fun _ _ => .inl (by simp)) harr⟩
      | outgrown => exact ⟨_, a₁, w₁, ⟨st₁, hs₁, hq⟩, .pass (x := .inLoop c) rfl (fun _ _ => .inl (by simp)) harr⟩
  subst hst; obtain ⟨e, a', w', hq, harr⟩ := key _ x0 rfl h0 a w hs; exact ⟨e, a', w', hq, .of_steps (.one (fenced_calm hb hr rfl) stepR_loop) harr⟩

theorem AW.region (hC : CtxOK P C) {id : Nat} (wr : Bool) (kn : List (Nat × Bool)) (ks ms : List Nat) (st' : St) (ob : List Prop) (h : Am.region C wr kn N ops ks ms st = some (st', ob))
    (hob : ∀ p ∈ ob, p) (hq : Q .normal st') : AW P E N (.region id ops false) Q st := by
  intro a w hs; simp only [Am.region] at h; split at h
  · rename_i e m ob' hr; split at h
    · rename_i st'' hk; simp only [Option.some.injEq, Prod.mk.injEq] at h; obtain ⟨rfl, rfl⟩ := h; refine wpIn_region (runL_sound hC hs hr hob fun a' w' hs' => ⟨st'', keep_sound hk hs', hq⟩)
    · simp at h
  · simp at h

def St.up (st : St) (ks ms : List Nat) (s : List (Nat × SV)) (m : List (Nat × Blk)) : St :=
  ⟨ks.map fun i => (i, lookS (s ++ st.slots) i), ms.map fun i => (i, match lookM (m ++ st.mem) i with | some b => b | none => .dead 0)⟩

theorem AW.keep {c : Code} (ks ms : List Nat) (st' : St) (h : Am.keep ks ms st.env st.memf = some st') (hc : AW P E N c Q st') : AW P E N c Q st :=
  fun a w hs => hc a w (keep_sound h hs)

theorem AW.keepU {c : Code} (ks ms : List Nat) (s : List (Nat × SV)) (m : List (Nat × Blk)) (h : Am.keep ks ms st.env st.memf = some (st.up ks ms s m)) (hc : AW P E N c Q (st.up ks ms s m)) : AW P E N c Q st :=
  AW.keep ks ms _ h hc

end
end Go.Am
