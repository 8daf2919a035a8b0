/-
  An, part G: an array of the call's own that nobody writes into any more; a beginning of an array that stands for the array.
-/
import Derived.Test.YtmijmkbnmcmgcaaAnF
set_option linter.all false
namespace Go.Am
variable [U : Univ]
attribute [local irreducible] OFF

def frzSV (id ep : Nat) (t : Ty) (xs : List t.den) : Nat → SV → SV
  | 0, _ => .top
  | n + 1, sv =>
    match sv with
    | .arr i e => bif Nat.beq i id then (bif Nat.beq e ep then .data (.slice t) xs else .top) else .arr i e
    | .sub i e off len => bif Nat.beq i id then (bif Nat.beq e ep then .data (.slice t) ((xs.drop off).take len : List t.den) else .top) else .sub i e off len
    | .ref i e off => bif Nat.beq i id then .top else .ref i e off
    | .bsl i e off len => bif Nat.beq i id then .top else .bsl i e off len
    | .eref i e k p => bif Nat.beq i id then .top else .eref i e k p
    | .tr i e => bif Nat.beq i id then .top else .tr i e
    | .tref i e k p => bif Nat.beq i id then .top else .tref i e k p
    | .agg l => .agg (l.map (frzSV id ep t xs n))
    | .tup l => .tup (l.map (frzSV id ep t xs n))
    | .clo g l => .clo g (l.map (frzSV id ep t xs n))
    | .cnd _ _ => .top
    | v => v

def frzBlk (id ep : Nat) (t : Ty) (xs : List t.den) : Blk → Blk
  | .box e cells => .box e (cells.map (frzSV id ep t xs fuel))
  | k => k

theorem frzBlk_ep (id ep : Nat) (t : Ty) (xs : List t.den) (k : Blk) : (frzBlk id ep t xs k).ep = k.ep := by cases k <;> rfl

def frzS (id ep : Nat) (t : Ty) (xs : List t.den) : List (Nat × SV) → List (Nat × SV)
  | [] => []
  | (s, v) :: r => (s, frzSV id ep t xs fuel v) :: frzS id ep t xs r

def frzM (id ep : Nat) (t : Ty) (xs : List t.den) : List (Nat × Blk) → List (Nat × Blk)
  | [] => []
  | (s, k) :: r => bif Nat.beq s id then frzM id ep t xs r else (s, frzBlk id ep t xs k) :: frzM id ep t xs r

def frzSt (id : Nat) (st : St) : Option St :=
  match st.memf id with
  | some (.arr ep t xs) => some ⟨frzS id ep t xs st.slots, frzM id ep t xs st.mem⟩
  | _ => none

theorem lookS_frz (id ep : Nat) (t : Ty) (xs : List t.den) (l : List (Nat × SV)) (s : Nat) : lookS (frzS id ep t xs l) s = frzSV id ep t xs fuel (lookS l s) := by
  induction l with
  | nil => rfl
  | cons p l ih =>
    obtain ⟨x, v⟩ := p
    simp only [frzS, lookS, ih]
    cases Nat.beq s x <;> rfl

theorem lookM_frz (id ep : Nat) (t : Ty) (xs : List t.den) (l : List (Nat × Blk)) (y : Nat) : lookM (frzM id ep t xs l) y = bif Nat.beq y id then none else (lookM l y).map (frzBlk id ep t xs) := by
  induction l with
  | nil => cases Nat.beq y id <;> rfl
  | cons p l ih =>
    obtain ⟨x, k⟩ := p
    simp only [frzM]
    by_cases hx : x = id
    · subst hx
      rw [show Nat.beq x x = true from Nat.beq_refl x, cond_true, ih]
      by_cases hy : y = x
      · subst hy; rw [show Nat.beq y y = true from Nat.beq_refl y]; rfl
      · rw [beq_ne hy, cond_false, cond_false]
        simp only [lookM, beq_ne hy, cond_false]
    · rw [beq_ne hx, cond_false]
      simp only [lookM, ih]
      by_cases hyx : y = x
      · subst hyx
        rw [show Nat.beq y y = true from Nat.beq_refl y, beq_ne hx]
        rfl
      · rw [beq_ne hyx, cond_false, cond_false]

section
variable {E : Ent} {N : Nat} {P : Program} {c : Code} {Q : Exit → St → Prop} {st st' : St} {a : Act} {w : World}

theorem frz_sound {id : Nat} (h : frzSt id st = some st') (hs : Sim E N st.env st.memf a w) : Sim E N st'.env st'.memf a w := by
  obtain ⟨β, hw⟩ := hs
  unfold frzSt at h
  split at h
  case h_2 => cases h
  rename_i ep t xs hid
  obtain rfl := Option.some.inj h
  generalize hS : (⟨frzS id ep t xs st.slots, frzM id ep t xs st.mem⟩ : St) = S
  have henv : ∀ s, S.env s = frzSV id ep t xs fuel (st.env s) := by subst hS; exact lookS_frz id ep t xs st.slots
  have hmem : ∀ y, S.memf y = bif Nat.beq y id then none else (st.memf y).map (frzBlk id ep t xs) := by subst hS; exact lookM_frz id ep t xs st.mem
  let β' : Bind := ⟨fun y => if y = id then none else β y, β.own⟩
  have b1 : β' id = none := if_pos rfl
  have b2 : ∀ x, x ≠ id → β' x = β x := fun x hx => if_neg hx
  have m1 : S.memf id = none := by rw [hmem, show Nat.beq id id = true from Nat.beq_refl id]; rfl
  have m2 : ∀ x, x ≠ id → S.memf x = (st.memf x).map (frzBlk id ep t xs) := fun x hx => by rw [hmem, beq_ne hx]; rfl
  have hA : ∀ b, allow E w β b → allow E w β' b := by
    rintro b ⟨h1, h2, h3, h4⟩
    refine ⟨h1, h2, fun i C => ?_, h4⟩
    by_cases hi : i = id
    · rw [hi, b1]; intro e; cases e
    · rw [b2 i hi]; exact h3 i C
  have hB : ∀ b, Held β id b → allow E w β' b := by
    rintro b (⟨C, hb⟩ | hb)
    rotate_left
    · obtain ⟨⟨k, hk, ht⟩, _⟩ := hw.own b id hb
      rw [hid] at hk
      obtain rfl := Option.some.inj hk
      cases ht
    obtain ⟨⟨k, hk, hkb⟩, h2, h3⟩ := hw.dom id b C hb
    refine ⟨h2, ?_, fun i D e => ?_, ?_⟩
    rotate_left 2
    · show β.own b = none
      cases ho : β.own b with
      | none => rfl
      | some i => exact absurd hb ((hw.own b i ho).2.2.2 id C)
    · rcases h3 with h3 | h3
      · have := hkb h3
        rw [hid] at hk
        obtain rfl := Option.some.inj hk
        cases this
      · exact .inr h3
    · by_cases hi : i = id
      · rw [hi, b1] at e; cases e
      · rw [b2 i hi] at e
        exact hi (hw.inj i id b D C e hb)
  have hmono : ∀ x k, x ≠ id → st.memf x = some k → S.memf x = some (frzBlk id ep t xs k) ∧ β' x = β x := fun x k hx hk => ⟨by rw [m2 x hx, hk]; rfl, b2 x hx⟩
  have hrep : ∀ (n : Nat) {sv : SV} {v : Value}, RepSV (allow E w β) w β st.memf sv v → RepSV (allow E w β') w β' S.memf (frzSV id ep t xs n sv) v := by
    intro n
    induction n with
    | zero => intro sv v _; exact .top v
    | succ n ih =>
      intro sv v h
      have mapped : ∀ {l : List SV} {vs : List Value}, (∀ (i : Nat) (sv : SV) (v : Value), l[i]? = some sv → vs[i]? = some v → RepSV (allow E w β) w β st.memf sv v) →
          ∀ (i : Nat) (sv : SV) (v : Value), (l.map (frzSV id ep t xs n))[i]? = some sv → vs[i]? = some v → RepSV (allow E w β') w β' S.memf sv v := by
        intro l vs hl i sv v hi hj
        rw [List.getElem?_map] at hi
        cases e : l[i]? with
        | none => rw [e] at hi; cases hi
        | some x =>
          rw [e] at hi
          obtain rfl := Option.some.inj hi
          exact ih (hl i x v e hj)
      have up : ∀ (i e : Nat), i ≠ id → (∃ k, st.memf i = some k ∧ e ≤ k.ep) → ∃ k, S.memf i = some k ∧ e ≤ k.ep := by
        rintro i e hi ⟨k, hk, hle⟩
        exact ⟨_, (hmono i k hi hk).1, by rw [frzBlk_ep]; exact hle⟩
      have arr : ∀ (i e : Nat) (u : Ty) (ys : List u.den), i ≠ id → (∃ k, st.memf i = some k ∧ e ≤ k.ep) → S.memf i = some (.arr e u ys) → st.memf i = some (.arr e u ys) ∧ β' i = β i := by
        rintro i e u ys hi ⟨k, hk, _⟩ h'
        obtain ⟨h1, h2⟩ := hmono i k hi hk
        rw [h1] at h'
        cases k with
        | arr e u ys => exact ⟨hk.trans h', h2⟩
        | box => cases h'
        | tree => cases h'
        | dead => cases h'
      have tree : ∀ (i e : Nat) (u : Ty) (ys : List u.den), i ≠ id → (∃ k, st.memf i = some k ∧ e ≤ k.ep) → S.memf i = some (.tree e u ys) → st.memf i = some (.tree e u ys) ∧ β' i = β i := by
        rintro i e u ys hi ⟨k, hk, _⟩ h'
        obtain ⟨h1, h2⟩ := hmono i k hi hk
        rw [h1] at h'
        cases k with
        | tree e u ys => exact ⟨hk.trans h', h2⟩
        | box => cases h'
        | arr => cases h'
        | dead => cases h'
      have h0 := h
      cases h with
      | top v => exact .top v
      | int k n lo hi => exact .int k n lo hi
      | bool b => exact .bool b
      | str s h => exact .str s h
      | data u x v h => exact .data u x v (h.mono fun b hb => ⟨hA b hb, rfl⟩)
      | nilsl => exact .nilsl
      | nilptr => exact .nilptr
      | arr i e v hx h1 h =>
        simp only [frzSV]
        by_cases hi : i = id
        · subst hi
          rw [show Nat.beq i i = true from Nat.beq_refl i, cond_true]
          by_cases he : e = ep
          · subst he
            rw [show Nat.beq e e = true from Nat.beq_refl e, cond_true]
            refine .data _ _ _ (toD_sound hw hA (lend := true) 1 (t := .slice t) (fun _ j hj b hb => ?_) h0 (x := xs) ?_)
            · simp only [lentIds, List.mem_singleton] at hj
              subst hj
              exact hB b hb
            · simp [toD, Rd.eval, hid, TV.to, Rd.opt]
          · rw [beq_ne he, cond_false]; exact .top v
        · rw [beq_ne hi, cond_false]
          refine .arr i e v (up i e hi hx) h1 fun u ys hys => ?_
          obtain ⟨h2, h3⟩ := arr i e u ys hi hx hys
          rw [h3]
          exact h u ys h2
      | sub i e off len v hx h1 h =>
        simp only [frzSV]
        by_cases hi : i = id
        · subst hi
          rw [show Nat.beq i i = true from Nat.beq_refl i, cond_true]
          by_cases he : e = ep
          · subst he
            rw [show Nat.beq e e = true from Nat.beq_refl e, cond_true]
            refine .data _ _ _ (toD_sound hw hA (lend := true) 1 (t := .slice t) (fun _ j hj b hb => ?_) h0 (x := ((xs.drop off).take len : List t.den)) ?_)
            · simp only [lentIds, List.mem_singleton] at hj
              subst hj
              exact hB b hb
            · simp [toD, Rd.eval, hid, TV.to, Rd.opt]
          · rw [beq_ne he, cond_false]; exact .top v
        · rw [beq_ne hi, cond_false]
          refine .sub i e off len v (up i e hi hx) h1 fun u ys hys => ?_
          obtain ⟨h2, h3⟩ := arr i e u ys hi hx hys
          rw [h3]
          exact h u ys h2
      | ref i e off b hx h =>
        simp only [frzSV]
        by_cases hi : i = id
        · subst hi
          rw [show Nat.beq i i = true from Nat.beq_refl i, cond_true]
          exact .top _
        · rw [beq_ne hi, cond_false]
          refine .ref i e off b (up i e hi hx) fun cells hxs => ?_
          obtain ⟨k, hk, _⟩ := hx
          obtain ⟨h1, h2⟩ := hmono i k hi hk
          rw [h1] at hxs
          cases k with
          | box e' c' =>
            simp only [frzBlk, Option.some.injEq, Blk.box.injEq] at hxs
            obtain ⟨rfl, _⟩ := hxs
            rw [h2]
            exact h c' hk
          | arr => cases hxs
          | tree => cases hxs
          | dead => cases hxs
      | bsl i e off len b cap hle hx h =>
        simp only [frzSV]
        by_cases hi : i = id
        · subst hi
          rw [show Nat.beq i i = true from Nat.beq_refl i, cond_true]
          exact .top _
        · rw [beq_ne hi, cond_false]
          refine .bsl i e off len b cap hle (up i e hi hx) fun cells hxs => ?_
          obtain ⟨k, hk, _⟩ := hx
          obtain ⟨h1, h2⟩ := hmono i k hi hk
          rw [h1] at hxs
          cases k with
          | box e' c' =>
            simp only [frzBlk, Option.some.injEq, Blk.box.injEq] at hxs
            obtain ⟨rfl, _⟩ := hxs
            rw [h2]
            exact h c' hk
          | arr => cases hxs
          | tree => cases hxs
          | dead => cases hxs
      | eref i e k p b o hx h =>
        simp only [frzSV]
        by_cases hi : i = id
        · subst hi
          rw [show Nat.beq i i = true from Nat.beq_refl i, cond_true]
          exact .top _
        · rw [beq_ne hi, cond_false]
          refine .eref i e k p b o (up i e hi hx) fun u ys hys => ?_
          obtain ⟨h2, h3⟩ := arr i e u ys hi hx hys
          rw [h3]
          exact h u ys h2
      | tr i e v hx h1 h =>
        simp only [frzSV]
        by_cases hi : i = id
        · subst hi
          rw [show Nat.beq i i = true from Nat.beq_refl i, cond_true]
          exact .top _
        · rw [beq_ne hi, cond_false]
          refine .tr i e v (up i e hi hx) h1 fun u ys hys => ?_
          obtain ⟨h2, h3⟩ := tree i e u ys hi hx hys
          rw [h3]
          exact h u ys h2
      | tref i e k p b o hx h =>
        simp only [frzSV]
        by_cases hi : i = id
        · subst hi
          rw [show Nat.beq i i = true from Nat.beq_refl i, cond_true]
          exact .top _
        · rw [beq_ne hi, cond_false]
          refine .tref i e k p b o (up i e hi hx) fun u ys hys => ?_
          obtain ⟨h2, h3⟩ := tree i e u ys hi hx hys
          rw [h3]
          exact h u ys h2
      | dref u x b off cs hb hc h => exact .dref u x b off cs (hA b hb) hc (h.mono fun b hb => ⟨hA b hb, rfl⟩)
      | agg l vs hl h1 h => exact .agg _ vs (by rw [List.length_map]; exact hl) h1 (mapped h)
      | tup l vs hl h => exact .tup _ vs (by rw [List.length_map]; exact hl) (mapped h)
      | clo g l vs hl h => exact .clo g _ vs (by rw [List.length_map]; exact hl) (mapped h)
      | cnd p sv v _ _ => exact .top v
  refine ⟨β', {
    defers := hw.defers.mono fun b hb => ⟨hA b hb, rfl⟩
    size := hw.size, hN := hw.hN, os := hw.os, tape := hw.tape, output := hw.output, grow := hw.grow, old := hw.old
    dom := ?_, inj := ?_, own := ?_, blk := ?_, slot := ?_, par := ?_ }⟩
  · intro x b C e
    by_cases hx : x = id
    · rw [hx, b1] at e; cases e
    · rw [b2 x hx] at e
      obtain ⟨⟨k, hk, hkb⟩, h2⟩ := hw.dom x b C e
      exact ⟨⟨frzBlk id ep t xs k, (hmono x k hx hk).1, fun hb => by have := hkb hb; cases k <;> first | rfl | exact this⟩, h2⟩
  · intro x y b C D e1 e2
    by_cases hx : x = id
    · rw [hx, b1] at e1; cases e1
    · by_cases hy : y = id
      · rw [hy, b1] at e2; cases e2
      · rw [b2 x hx] at e1
        rw [b2 y hy] at e2
        exact hw.inj x y b C D e1 e2
  · intro b x e
    obtain ⟨⟨k, hk, ht⟩, o2, o3, o4⟩ := hw.own b x e
    have hx : x ≠ id := by
      rintro rfl
      rw [hid] at hk
      obtain rfl := Option.some.inj hk
      cases ht
    refine ⟨⟨frzBlk id ep t xs k, (hmono x k hx hk).1, by cases k <;> first | rfl | cases ht⟩, o2, o3, fun y C ey => ?_⟩
    by_cases hy : y = id
    · rw [hy, b1] at ey; cases ey
    · rw [b2 y hy] at ey; exact o4 y C ey
  · intro x k hk
    by_cases hx : x = id
    · rw [hx, m1] at hk; cases hk
    · rw [m2 x hx] at hk
      cases e : st.memf x with
      | none => rw [e] at hk; cases hk
      | some k0 =>
        rw [e] at hk
        obtain rfl := Option.some.inj hk
        have h0 := hw.blk x k0 e
        have hb := b2 x hx
        cases k0 with
        | box ep' cells =>
          obtain ⟨b, D, cs, el, h1, h2, h3, h4⟩ := h0
          refine ⟨b, D, cs, el, hb.trans h1, h2, by rw [List.length_map]; exact h3, fun q sv hq => ?_⟩
          rw [List.getElem?_map] at hq
          cases e : cells[q]? with
          | none => rw [e] at hq; cases hq
          | some sv0 =>
            rw [e] at hq
            obtain rfl := Option.some.inj hq
            obtain ⟨v, hv, hv1, hr⟩ := h4 q sv0 e
            exact ⟨v, hv, hv1, hrep _ hr⟩
        | arr ep' u ys =>
          obtain ⟨hl, ⟨h1, h2⟩ | ⟨b, D, cs, el, css, h1, h2, h3, h4, h5⟩⟩ := h0
          · exact ⟨hl, .inl ⟨hb.trans h1, h2⟩⟩
          · exact ⟨hl, .inr ⟨b, D, cs, el, css, hb.trans h1, h2, h3, h4, fun q hq => ⟨(h5 q hq).1, (h5 q hq).2.1, (h5 q hq).2.2.mono fun b hb => ⟨hA b hb, rfl⟩⟩⟩⟩
        | tree ep' u ys =>
          obtain ⟨hl, ⟨h1, h2⟩ | ⟨b, D, cs, el, css, T, h1, h2, h3, h4, h5, h6⟩⟩ := h0
          · exact ⟨hl, .inl ⟨hb.trans h1, h2⟩⟩
          · exact ⟨hl, .inr ⟨b, D, cs, el, css, T, hb.trans h1, h2, h3, h4, h5, h6⟩⟩
        | dead ep' => exact hb.trans h0
  · intro s
    rw [henv]
    exact hrep _ (hw.slot s)
  · intro x cs hc
    by_cases hx : x = id
    · rw [hx, m1] at hc; cases hc
    · rw [m2 x hx] at hc
      cases e : st.memf x with
      | none => rw [e] at hc; cases hc
      | some k0 =>
        rw [e] at hc
        cases k0 with
        | arr => cases hc
        | tree => cases hc
        | dead => cases hc
        | box ep' cells =>
          simp only [Option.map_some, frzBlk, Option.some.injEq, Blk.box.injEq] at hc
          obtain ⟨rfl, _⟩ := hc
          obtain ⟨b, D, h1, h2⟩ := hw.par x cells e
          exact ⟨b, D, h1, by rw [b2 x hx]; exact h2⟩

theorem AW.frz (id : Nat) (st' : St) (h : frzSt id st = some st') (hc : AW P E N c Q st') : AW P E N c Q st :=
  fun a w hs => hc a w (frz_sound h hs)

theorem AW.trunc (s id ep k : Nat) (t : Ty) (xs : List t.den) (hs : st.env s = .sub id ep 0 k) (hm : st.memf id = some (.arr ep t xs))
    (h : AW P E N c Q ⟨(s, .arr id (ep + 1)) :: st.slots, (id, .arr (ep + 1) t (xs.take k)) :: st.mem⟩) : AW P E N c Q st := by
  rintro a w ⟨β, hw⟩
  refine h a w ⟨β, ?_⟩
  have hmm : (⟨(s, .arr id (ep + 1)) :: st.slots, (id, .arr (ep + 1) t (xs.take k)) :: st.mem⟩ : St).memf = setm st.memf id (.arr (ep + 1) t (xs.take k)) := by
    funext y
    show lookM _ y = _
    simp only [lookM, setm]
    rfl
  have hsl := hw.slot s
  rw [hs] at hsl
  have h1 : SimB E N st.env (setm st.memf id (.arr (ep + 1) t (xs.take k))) a w β := by
    refine hw.evolve rfl rfl ⟨rfl, Nat.le_refl _⟩ (Nat.le_refl _) (fun _ _ _ => rfl) (fun b hb => ⟨hb, rfl⟩) (fun i k0 hk0 => ?_) (fun i b C e => ?_) hw.inj
      (fun b i e => by
        obtain ⟨⟨k0, hk0, ht⟩, h2⟩ := hw.own b i e
        have hi : i ≠ id := by
          rintro rfl
          rw [hm] at hk0
          obtain rfl := Option.some.inj hk0
          cases ht
        exact ⟨⟨k0, by rw [setm_ne _ _ hi]; exact hk0, ht⟩, h2⟩) (fun c i _ _ _ hc => ⟨hc, rfl⟩) (fun i k' hk' => ?_) (fun i cs hc => ?_)
    · by_cases hi : i = id
      · subst hi
        rw [hm] at hk0
        obtain rfl := Option.some.inj hk0
        exact ⟨_, setm_same _ _ _, Nat.le_succ _, fun e => absurd e (Nat.ne_of_lt (Nat.lt_succ_self _))⟩
      · exact ⟨k0, by rw [setm_ne _ _ hi]; exact hk0, Nat.le_refl _, fun _ => ⟨k0.alike_refl, rfl⟩⟩
    · obtain ⟨⟨k0, hk0, hkb⟩, h2⟩ := hw.dom i b C e
      refine ⟨?_, h2⟩
      by_cases hi : i = id
      · subst hi
        rw [hm] at hk0
        obtain rfl := Option.some.inj hk0
        exact ⟨_, setm_same _ _ _, hkb⟩
      · exact ⟨k0, by rw [setm_ne _ _ hi]; exact hk0, hkb⟩
    · by_cases hi : i = id
      · subst hi
        rw [setm_same] at hk'
        obtain rfl := Option.some.inj hk'
        right
        obtain ⟨hl, ⟨h1, h2⟩ | ⟨b, D, cs, el, css, h1, h2, h3, h4, h5⟩⟩ := hw.blk _ _ hm
        · exact ⟨by rw [List.length_take]; omega, .inl ⟨h1, by rw [h2]; simp⟩⟩
        · refine ⟨by rw [List.length_take]; omega, .inr ⟨b, D, cs, el, css, h1, h2, h3, by rw [List.length_take]; omega, fun q hq => ?_⟩⟩
          have hq' := hq
          rw [List.length_take] at hq'
          obtain ⟨g1, g2, g3⟩ := h5 q (by omega)
          refine ⟨g1, g2, ?_⟩
          rw [List.getElem_take]
          exact g3
      · rw [setm_ne _ _ hi] at hk'
        exact .inl ⟨hk', rfl, fun _ _ _ => rfl⟩
    · by_cases hi : i = id
      · subst hi; rw [setm_same] at hc; cases hc
      · rw [setm_ne _ _ hi] at hc
        exact ⟨cs, hc, rfl⟩
  rw [hmm]
  exact { h1 with
    slot := by
      intro s'
      show RepSV _ _ _ _ (lookS _ s') _
      simp only [lookS]
      by_cases hs' : s' = s
      · subst hs'
        rw [show Nat.beq s' s' = true from Nat.beq_refl s', cond_true]
        generalize slotV E a s' = v at hsl
        cases hsl with
        | sub _ _ _ _ _ hx h1 h =>
          refine .arr id (ep + 1) _ ⟨_, setm_same _ _ _, Nat.le_refl _⟩ h1 fun u ys hys => ?_
          rw [setm_same] at hys
          simp only [Option.some.injEq, Blk.arr.injEq, true_and] at hys
          obtain ⟨rfl, hys⟩ := hys
          obtain rfl := eq_of_heq hys
          obtain ⟨g1, g2⟩ := h _ _ hm
          rw [List.length_take, show min k xs.length = k by omega]
          exact g2
      · rw [beq_ne hs', cond_false]
        exact h1.slot s' }

end
end Go.Am
