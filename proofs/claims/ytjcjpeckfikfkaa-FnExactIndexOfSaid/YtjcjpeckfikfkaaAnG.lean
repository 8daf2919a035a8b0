/-
  An, part G: an array of the call's own that nobody writes into any more; a beginning of an array that stands for the array.
-/
import Derived.Test.YtjcjpeckfikfkaaAnE
set_option linter.all false
namespace Go.Am
open List
variable [U : Univ]
attribute [local irreducible] OFF

def renSV (f : Nat → Nat) : Nat → SV → SV
  | 0, _ => .top
  | n + 1, sv =>
    match sv with
    | .arr id ep => .arr (f id) ep
    | .sub id ep off len => .sub (f id) ep off len
    | .ref id ep off => .ref (f id) ep off
    | .bsl id ep off len => .bsl (f id) ep off len
    | .eref id ep i p => .eref (f id) ep i p
    | .tr id ep => .tr (f id) ep
    | .mp id ep => .mp (f id) ep
    | .tref id ep i p => .tref (f id) ep i p
    | .agg l => .agg (l.map (renSV f n))
    | .tup l => .tup (l.map (renSV f n))
    | .clo g l => .clo g (l.map (renSV f n))
    | .cnd _ _ => .top
    | v => v

def renBlk (f : Nat → Nat) (n : Nat) : Blk → Blk
  | .box ep cells => .box ep (cells.map (renSV f n))
  | k => k

omit U in
theorem renBlk_ep [U : Univ] (f : Nat → Nat) (n : Nat) (k : Blk) : (renBlk f n k).ep = k.ep := by cases k <;> rfl

theorem RepSV.ren {A : Nat → Prop} {w : World} {β β' : Bind} {mem mem' : Nat → Option Blk} {f : Nat → Nat} {m : Nat}
    (hm : ∀ i k, mem i = some k → mem' (f i) = some (renBlk f m k) ∧ β' (f i) = β i) : ∀ (n : Nat) {sv : SV} {v : Value}, RepSV A w β mem sv v → RepSV A w β' mem' (renSV f n sv) v := by
  intro n
  induction n with
  | zero => intro sv v _; exact .top v
  | succ n ih =>
    intro sv v h
    have mapped : ∀ {l : List SV} {vs : List Value}, (∀ (i : Nat) (sv : SV) (v : Value), l[i]? = some sv → vs[i]? = some v → RepSV A w β mem sv v) →
        ∀ (i : Nat) (sv : SV) (v : Value), (l.map (renSV f n))[i]? = some sv → vs[i]? = some v → RepSV A w β' mem' sv v := by
      intro l vs hl i sv v hi hj; rw [getElem?_map] at hi
      cases e : l[i]? with
      | none => rw [e] at hi; cases hi
      | some x =>
        rw [e] at hi; obtain rfl := Option.some.inj hi; exact ih (hl i x v e hj)
    have up : ∀ (id ep : Nat), (∃ k, mem id = some k ∧ ep ≤ k.ep) → ∃ k, mem' (f id) = some k ∧ ep ≤ k.ep := by
      rintro id ep ⟨k, hk, hle⟩; exact ⟨_, (hm id k hk).1, by rw [renBlk_ep]; exact hle⟩
    have arr : ∀ (id ep : Nat) (t : Ty) (xs : List t.den), (∃ k, mem id = some k ∧ ep ≤ k.ep) → mem' (f id) = some (.arr ep t xs) → mem id = some (.arr ep t xs) ∧ β' (f id) = β id := by
      rintro id ep t xs ⟨k, hk, _⟩ h'; obtain ⟨h1, h2⟩ := hm id k hk; rw [h1] at h'
      cases k with
      | arr e u ys => exact ⟨hk.trans h', h2⟩
      | box => cases h'
      | tree => cases h'
      | dead => cases h'
      | mp => cases h'
      | hole => cases h'
    have tree : ∀ (id ep : Nat) (t : Ty) (xs : List t.den), (∃ k, mem id = some k ∧ ep ≤ k.ep) → mem' (f id) = some (.tree ep t xs) → mem id = some (.tree ep t xs) ∧ β' (f id) = β id := by
      rintro id ep t xs ⟨k, hk, _⟩ h'; obtain ⟨h1, h2⟩ := hm id k hk; rw [h1] at h'
      cases k with
      | tree e u ys => exact ⟨hk.trans h', h2⟩
      | box => cases h'
      | arr => cases h'
      | dead => cases h'
      | mp => cases h'
      | hole => cases h'
    have treeA : ∀ (id ep : Nat) (t : Ty) (xs : List t.den), (∃ k, mem id = some k ∧ ep ≤ k.ep) → TreeAt (mem' (f id)) ep t xs → TreeAt (mem id) ep t xs ∧ β' (f id) = β id := by
      rintro id ep t xs ⟨k, hk, _⟩ h'; obtain ⟨h1, h2⟩ := hm id k hk; rw [h1] at h'; refine ⟨?_, h2⟩; rw [hk]
      cases k with
      | box => cases h'
      | tree => exact h'
      | hole => exact h'
      | arr => cases h'
      | dead => cases h'
      | mp => cases h'
    cases h with
    | top v => exact .top v
    | int k n lo hi => exact .int k n lo hi
    | bool b => exact .bool b
    | str s h => exact .str s h
    | data t x v h => exact .data t x v h
    | nilsl => exact .nilsl
    | nilptr => exact .nilptr
    | err0 => exact .err0
    | err1 T v => exact .err1 T v
    | el id i cs => exact .el id i cs
    | mp id ep b hx h =>
      refine .mp (f id) ep b (up _ _ hx) fun l hxs => ?_; obtain ⟨k, hk, _⟩ := hx; obtain ⟨h1, h2⟩ := hm id k hk; rw [h1] at hxs
      cases k with
      | mp e l' => rw [h2]; exact h l (hk.trans hxs)
      | hole => cases hxs
      | box => cases hxs
      | arr => cases hxs
      | tree => cases hxs
      | dead => cases hxs
    | arr id ep v hx h1 h =>
      refine .arr (f id) ep v (up _ _ hx) h1 fun t xs hxs => ?_; obtain ⟨h2, h3⟩ := arr id ep t xs hx hxs; rw [h3]; exact h t xs h2
    | sub id ep off len v hx h1 h =>
      refine .sub (f id) ep off len v (up _ _ hx) h1 fun t xs hxs => ?_; obtain ⟨h2, h3⟩ := arr id ep t xs hx hxs; rw [h3]; exact h t xs h2
    | ref id ep off b hx h =>
      refine .ref (f id) ep off b (up _ _ hx) fun cells hxs => ?_; obtain ⟨k, hk, _⟩ := hx; obtain ⟨h1, h2⟩ := hm id k hk; rw [h1] at hxs
      cases k with
      | box e c =>
        simp only [renBlk, Option.some.injEq, Blk.box.injEq] at hxs; obtain ⟨rfl, _⟩ := hxs; rw [h2]; exact h c hk
      | arr => cases hxs
      | tree => cases hxs
      | dead => cases hxs
      | mp => cases hxs
      | hole => cases hxs
    | bsl id ep off len b cap hle hx h =>
      refine .bsl (f id) ep off len b cap hle (up _ _ hx) fun cells hxs => ?_; obtain ⟨k, hk, _⟩ := hx; obtain ⟨h1, h2⟩ := hm id k hk; rw [h1] at hxs
      cases k with
      | box e c =>
        simp only [renBlk, Option.some.injEq, Blk.box.injEq] at hxs; obtain ⟨rfl, _⟩ := hxs; rw [h2]; exact h c hk
      | arr => cases hxs
      | tree => cases hxs
      | dead => cases hxs
      | mp => cases hxs
      | hole => cases hxs
    | eref id ep i p b o hx h =>
      refine .eref (f id) ep i p b o (up _ _ hx) fun t xs hxs => ?_; obtain ⟨h2, h3⟩ := arr id ep t xs hx hxs; rw [h3]; exact h t xs h2
    | tr id ep v hx h1 h =>
      refine .tr (f id) ep v (up _ _ hx) h1 fun t xs hxs => ?_; obtain ⟨h2, h3⟩ := treeA id ep t xs hx hxs; rw [h3]; exact h t xs h2
    | tref id ep i p b o hx h =>
      refine .tref (f id) ep i p b o (up _ _ hx) fun t xs hxs => ?_; obtain ⟨h2, h3⟩ := treeA id ep t xs hx hxs; rw [h3]; exact h t xs h2
    | dref t x b off cs hb hc h => exact .dref t x b off cs hb hc h
    | agg l vs hl h1 h => exact .agg _ vs (by rw [length_map]; exact hl) h1 (mapped h)
    | tup l vs hl h => exact .tup _ vs (by rw [length_map]; exact hl) (mapped h)
    | clo g l vs hl h => exact .clo g _ vs (by rw [length_map]; exact hl) (mapped h)
    | cnd p sv v _ _ => exact .top v

def nameOf (i j x : Nat) : Nat := bif Nat.beq x i then j else x

def renS (f : Nat → Nat) (n : Nat) : List (Nat × SV) → List (Nat × SV)
  | [] => []
  | (s, v) :: r => (s, renSV f n v) :: renS f n r

def renM (f : Nat → Nat) (n : Nat) : List (Nat × Blk) → List (Nat × Blk)
  | [] => []
  | (s, k) :: r => (f s, renBlk f n k) :: renM f n r

def isArr : Option Blk → Bool
  | some (.arr _ _ _) => true
  | _ => false

def renSt (i j : Nat) (st : St) : Option St :=
  match st.memf j with
  | some _ => none
  | none => bif isArr (st.memf i) then some ⟨renS (nameOf i j) fuel st.slots, renM (nameOf i j) fuel st.mem⟩ else none

omit U in
theorem beq_ne {x y : Nat} (h : x ≠ y) : Nat.beq x y = false := by rw [Bool.eq_false_iff]; intro e; exact h (Nat.eq_of_beq_eq_true e)

theorem lookS_ren (f : Nat → Nat) (l : List (Nat × SV)) (s : Nat) : lookS (renS f fuel l) s = renSV f fuel (lookS l s) := by
  induction l with
  | nil => rfl
  | cons p l ih =>
    obtain ⟨x, v⟩ := p; simp only [renS, lookS, ih]; cases Nat.beq s x <;> rfl

theorem lookM_ren {i j : Nat} : ∀ (l : List (Nat × Blk)), lookM l j = none → ∀ y, lookM (renM (nameOf i j) fuel l) y = bif Nat.beq y j then (lookM l i).map (renBlk (nameOf i j) fuel) else (bif Nat.beq y i then none else (lookM l y).map (renBlk (nameOf i j) fuel)) := by
  intro l
  induction l with
  | nil => intro _ y; cases Nat.beq y j <;> cases Nat.beq y i <;> rfl
  | cons p l ih =>
    intro hj y; obtain ⟨x, k⟩ := p
    have hxj : Nat.beq j x = false := by
      cases e : Nat.beq j x with
      | false => rfl
      | true => simp only [lookM, e, cond_true] at hj; cases hj
    (have hj' : lookM l j = none := by simpa only [lookM, hxj, cond_false] using hj); (have hxj' : x ≠ j := by rintro rfl; rw [show Nat.beq x x = true from Nat.beq_refl x] at hxj; cases hxj); simp only [renM, lookM]; by_cases hxi : x = i
    · subst hxi; rw [show nameOf x j x = j by unfold nameOf; rw [show Nat.beq x x = true from Nat.beq_refl x]; rfl, ih hj' y]; by_cases hy : y = j
      · subst hy; rw [show Nat.beq y y = true from Nat.beq_refl y, cond_true, cond_true, show Nat.beq x x = true from Nat.beq_refl x, cond_true]; rfl
      · rw [beq_ne hy, cond_false, cond_false]; by_cases hyx : y = x
        · subst hyx; rw [show Nat.beq y y = true from Nat.beq_refl y]; rfl
        · rw [beq_ne hyx]; simp only [cond_false]
    · rw [show nameOf i j x = x by unfold nameOf; rw [beq_ne hxi]; rfl, ih hj' y]; by_cases hy : y = j
      · subst hy; rw [show Nat.beq y y = true from Nat.beq_refl y, beq_ne (fun e => hxj' e.symm), cond_false, cond_true, cond_true, beq_ne (fun e => hxi e.symm), cond_false]
      · rw [beq_ne hy, cond_false, cond_false]; by_cases hyx : y = x
        · subst hyx; rw [show Nat.beq y y = true from Nat.beq_refl y, cond_true, beq_ne hxi, cond_false, cond_true]; rfl
        · rw [beq_ne hyx, cond_false, cond_false]

section
variable {E : Ent} {N : Nat} {P : Program} {c : Code} {Q : Exit → St → Prop} {st st' : St} {a : Act} {w : World}

theorem ren_sound {i j : Nat} (h : renSt i j st = some st') (hs : Sim E N st.env st.memf a w) : Sim E N st'.env st'.memf a w := by
  obtain ⟨β, hw⟩ := hs; unfold renSt at h
  cases hj : st.memf j with
  | some k => rw [hj] at h; cases h
  | none =>
    rw [hj] at h; simp only at h
    cases hi : isArr (st.memf i) with
    | false => rw [hi] at h; cases h
    | true =>
      rw [hi, cond_true] at h; obtain rfl := Option.some.inj h
      obtain ⟨ep0, t0, xs0, hi⟩ : ∃ e t xs, st.memf i = some (.arr e t xs) := by
        cases hk : st.memf i with
        | none => rw [hk] at hi; cases hi
        | some k =>
          rw [hk] at hi
          cases k with
          | arr e t xs => exact ⟨e, t, xs, rfl⟩
          | box => cases hi
          | tree => cases hi
          | dead => cases hi
          | mp => cases hi
          | hole => cases hi
      (have hij : i ≠ j := by rintro rfl; rw [hj] at hi; cases hi); let f := nameOf i j; (have fi : f i = j := by show nameOf i j i = j; unfold nameOf; rw [show Nat.beq i i = true from Nat.beq_refl i]; rfl); (have fn : ∀ x, x ≠ i → f x = x := fun x hx => by show nameOf i j x = x; unfold nameOf; rw [beq_ne hx]; rfl); let β' : Bind := ⟨fun y => if y = j then β i else if y = i then none else β y, β.own⟩
      have hβj : β j = none := by
        cases e : β j with
        | none => rfl
        | some x =>
          obtain ⟨b, D⟩ := x; obtain ⟨⟨k, hk, _⟩, _⟩ := hw.dom j b D e; rw [hj] at hk; cases hk
      have b1 : β' j = β i := if_pos rfl; have b2 : ∀ x, x ≠ j → x ≠ i → β' x = β x := fun x h1 h2 => (if_neg h1).trans (if_neg h2); have b3 : β' i = none := (if_neg hij).trans (if_pos rfl); generalize hS : (⟨renS f fuel st.slots, renM f fuel st.mem⟩ : St) = S; (have henv : ∀ s, S.env s = renSV f fuel (st.env s) := by subst hS; exact lookS_ren f st.slots); (have hmem : ∀ y, S.memf y = bif Nat.beq y j then (st.memf i).map (renBlk f fuel) else (bif Nat.beq y i then none else (st.memf y).map (renBlk f fuel)) := by subst hS; exact lookM_ren st.mem hj); (have m1 : S.memf j = some (renBlk f fuel (.arr ep0 t0 xs0)) := by rw [hmem, show Nat.beq j j = true from Nat.beq_refl j, hi]; rfl); (have m2 : ∀ x, x ≠ j → x ≠ i → S.memf x = (st.memf x).map (renBlk f fuel) := fun x h1 h2 => by rw [hmem, beq_ne h1, beq_ne h2]; rfl); have m3 : S.memf i = none := by rw [hmem, beq_ne hij, show Nat.beq i i = true from Nat.beq_refl i]; rfl
      have hmono : ∀ x k, st.memf x = some k → S.memf (f x) = some (renBlk f fuel k) ∧ β' (f x) = β x := by
        intro x k hk; by_cases hx : x = i
        · subst hx; rw [hi] at hk; obtain rfl := Option.some.inj hk; rw [fi]; exact ⟨m1, b1⟩
        · (have hxj : x ≠ j := by rintro rfl; rw [hj] at hk; cases hk); rw [fn x hx]; exact ⟨by rw [m2 x hxj hx, hk]; rfl, b2 x hxj hx⟩
      have hrep : ∀ {A : Nat → Prop} {n : Nat} {sv : SV} {v : Value}, RepSV A w β st.memf sv v → RepSV A w β' S.memf (renSV f n sv) v := fun h => h.ren hmono _; have hbn : ∀ b C, β i ≠ some (b, C) ∨ β i = some (b, C) := fun b C => (Classical.em _).symm
      have hall : allow E w β' = allow E w β := by
        funext b; unfold allow
        have : (∀ x C, β' x ≠ some (b, C)) = (∀ x C, β x ≠ some (b, C)) := by
          apply propext; constructor
          · intro hh x C e; by_cases hx : x = i
            · exact hh j C (by rw [b1, ← hx]; exact e)
            · (have hxj : x ≠ j := by rintro rfl; rw [hβj] at e; cases e); exact hh x C (by rw [b2 x hxj hx]; exact e)
          · intro hh x C e; by_cases hxj : x = j
            · exact hh i C (by rw [← b1, ← hxj]; exact e)
            · by_cases hx : x = i
              · rw [hx, b3] at e; cases e
              · exact hh x C (by rw [← b2 x hxj hx]; exact e)
        show (_ ∧ _ ∧ (∀ x C, β' x ≠ some (b, C)) ∧ _) = _; rw [this]
      refine ⟨β', {
        defers := by rw [hall]; exact hw.defers
        size := hw.size, hN := hw.hN, os := hw.os, tape := hw.tape, output := hw.output, grow := hw.grow, old := hw.old
        dom := ?_, inj := ?_, own := ?_, blk := ?_, slot := ?_, par := ?_ }⟩
      · intro x b C e; by_cases hxj : x = j
        · subst hxj; rw [b1] at e; obtain ⟨⟨k, hk, hkb⟩, h2⟩ := hw.dom i b C e; rw [hi] at hk; obtain rfl := Option.some.inj hk; exact ⟨⟨_, m1, hkb⟩, h2⟩
        · by_cases hx : x = i
          · subst hx; rw [b3] at e; cases e
          · rw [b2 x hxj hx] at e; obtain ⟨⟨k, hk, hkb⟩, h2⟩ := hw.dom x b C e; exact ⟨⟨renBlk f fuel k, by rw [m2 x hxj hx, hk]; rfl, fun hb => by have := hkb hb; cases k <;> first | rfl | exact this⟩, h2⟩
      · have key : ∀ x b C, β' x = some (b, C) → ∃ y, f y = x ∧ β y = some (b, C) := by
          intro x b C e; by_cases hxj : x = j
          · subst hxj; rw [b1] at e; exact ⟨i, fi, e⟩
          · by_cases hx : x = i
            · subst hx; rw [b3] at e; cases e
            · rw [b2 x hxj hx] at e; exact ⟨x, fn x hx, e⟩
        intro x y b C D e1 e2; obtain ⟨x', rfl, h1⟩ := key x b C e1; obtain ⟨y', rfl, h2⟩ := key y b D e2; rw [hw.inj x' y' b C D h1 h2]
      · intro b x e; obtain ⟨⟨k, hk, ht⟩, o2, o3, o4⟩ := hw.own b x e
        have hxi : x ≠ i := by
          rintro rfl; rw [hi] at hk; obtain rfl := Option.some.inj hk; cases ht
        (have hxj : x ≠ j := by rintro rfl; rw [hj] at hk; cases hk); (refine ⟨⟨renBlk f fuel k, by rw [m2 x hxj hxi, hk]; rfl, by cases k <;> first | rfl | cases ht⟩, o2, o3, fun y C ey => ?_⟩); by_cases hyj : y = j
        · rw [hyj, b1] at ey; exact o4 i C ey
        · by_cases hyi : y = i
          · rw [hyi, b3] at ey; cases ey
          · rw [b2 y hyj hyi] at ey; exact o4 y C ey
      · intro x k hk; rw [hall]
        have key : ∃ y k0, f y = x ∧ st.memf y = some k0 ∧ k = renBlk f fuel k0 ∧ β' x = β y := by
          by_cases hxj : x = j
          · subst hxj; rw [m1] at hk; exact ⟨i, _, fi, hi, (Option.some.inj hk).symm, b1⟩
          · by_cases hx : x = i
            · subst hx; rw [m3] at hk; cases hk
            · rw [m2 x hxj hx] at hk
              cases e : st.memf x with
              | none => rw [e] at hk; cases hk
              | some k0 =>
                rw [e] at hk; exact ⟨x, k0, fn x hx, e, (Option.some.inj hk).symm, b2 x hxj hx⟩
        obtain ⟨y, k0, rfl, hk0, rfl, hb⟩ := key; have h0 := hw.blk y k0 hk0
        cases k0 with
        | box ep cells =>
          obtain ⟨b, D, cs, el, h1, h2, h3, h4⟩ := h0; refine ⟨b, D, cs, el, hb.trans h1, h2, by rw [length_map]; exact h3, fun q sv hq => ?_⟩; rw [getElem?_map] at hq
          cases e : cells[q]? with
          | none => rw [e] at hq; cases hq
          | some sv0 =>
            rw [e] at hq; obtain rfl := Option.some.inj hq; obtain ⟨v, hv, hv1, hr⟩ := h4 q sv0 e; exact ⟨v, hv, hv1, hrep hr⟩
        | arr ep t xs =>
          obtain ⟨hl, ⟨h1, h2⟩ | ⟨b, D, cs, el, css, h1, h2⟩⟩ := h0
          · exact ⟨hl, .inl ⟨hb.trans h1, h2⟩⟩
          · exact ⟨hl, .inr ⟨b, D, cs, el, css, hb.trans h1, h2⟩⟩
        | tree ep t xs =>
          (have hyi : y ≠ i := by rintro rfl; rw [hi] at hk0; cases hk0); rw [fn y hyi] at hb ⊢; obtain ⟨hl, ⟨h1, h2⟩ | ⟨b, D, cs, el, css, T, h1, h2, h3, h4, h5, h6⟩⟩ := h0
          · exact ⟨hl, .inl ⟨hb.trans h1, h2⟩⟩
          · exact ⟨hl, .inr ⟨b, D, cs, el, css, T, hb.trans h1, h2, h3, h4, h5, h6⟩⟩
        | dead ep => exact hb.trans h0
        | hole ep t xs hs o =>
          (have hyi : y ≠ i := by rintro rfl; rw [hi] at hk0; cases hk0); rw [fn y hyi] at hb ⊢; obtain ⟨hl, b, D, cs, el, css, T, h1, h2⟩ := h0; exact ⟨hl, b, D, cs, el, css, T, hb.trans h1, h2⟩
        | mp ep l =>
          obtain ⟨b, D, es, clk, h1, h2⟩ := h0; exact ⟨b, D, es, clk, hb.trans h1, h2⟩
      · intro s; rw [hall, henv]; exact hrep (hw.slot s)
      · intro x c hc; by_cases hxj : x = j
        · subst hxj; rw [m1] at hc; cases hc
        · by_cases hx : x = i
          · subst hx; rw [m3] at hc; cases hc
          · rw [m2 x hxj hx] at hc
            cases e : st.memf x with
            | none => rw [e] at hc; cases hc
            | some k0 =>
              rw [e] at hc
              cases k0 with
              | arr => cases hc
              | tree => cases hc
              | dead => cases hc
              | mp => cases hc
              | hole => cases hc
              | box ep cells =>
                simp only [Option.map_some, renBlk, Option.some.injEq, Blk.box.injEq] at hc; obtain ⟨rfl, _⟩ := hc; obtain ⟨b, D, h1, h2⟩ := hw.par x cells e; exact ⟨b, D, h1, by rw [b2 x hxj hx]; exact h2⟩

theorem AW.ren (i j : Nat) (st' : St) (h : renSt i j st = some st') (hc : AW P E N c Q st') : AW P E N c Q st :=
  fun a w hs => hc a w (ren_sound h hs)

def Turn (st st' : St) : Prop := ∀ (E : Ent) (N : Nat) (a : Act) (w : World), Sim E N st.env st.memf a w → Sim E N st'.env st'.memf a w

def renL : List (Nat × Nat) → St → Option St
  | [], st => some st
  | (i, j) :: r, st => match renSt i j st with
    | some s => renL r s
    | none => none

def turned (ks ms : List Nat) (rs : List (Nat × Nat)) (ks' ms' : List Nat) (st : St) : Option St :=
  match Am.keep ks ms st.env st.memf with
  | some s => match renL rs s with
    | some s => Am.keep ks' ms' s.env s.memf
    | none => none
  | none => none

theorem Turn.rens : ∀ {rs : List (Nat × Nat)} {st st' : St}, renL rs st = some st' → Turn st st' := by
  intro rs
  induction rs with
  | nil => intro st st' h; obtain rfl := Option.some.inj h; exact fun _ _ _ _ h => h
  | cons p r ih =>
    intro st st' h; obtain ⟨i, j⟩ := p; simp only [renL] at h; split at h
    · rename_i s hs; exact fun E N a w h0 => ih h E N a w (ren_sound hs h0)
    · cases h

theorem Turn.of (ks ms : List Nat) (rs : List (Nat × Nat)) (ks' ms' : List Nat) (h : turned ks ms rs ks' ms' st = some st') : Turn st st' := by
  unfold turned at h; split at h
  · rename_i s1 h1; split at h
    · rename_i s2 h2; exact fun E N a w h0 => keep_sound h (Turn.rens h2 E N a w (keep_sound h1 h0))
    · cases h
  · cases h

theorem Turn.eq (h : st = st') : Turn st st' := by subst h; exact fun _ _ _ _ h => h

theorem AW.loopR {α : Type} {c : Code} (S : α → St) (R : α → Prop) (μ : α → Nat) (x0 : α) (hst : st = S x0) (h0 : R x0)
    (round : ∀ x, R x → AW P E N c (thenQ (fun st' => ∃ x', Turn st' (S x') ∧ R x' ∧ μ x' < μ x) Q) (S x)) : AW P E N (.loop c) Q st := by
  intro a w hs b k cs hro hb hr
  have key : ∀ n x, μ x = n → R x → ∀ a w, Sim E N (S x).env (S x).memf a w →
      ∃ e a' w', CQ E N Q e a' w' ∧ ArrivesIn (Machine.fenced P E.fence) P (lone (b.atR a (.code c :: .inLoop c :: k)) cs w) b k cs e a' w' := by
    intro n
    induction n using Nat.strongRecOn with
    | _ n ih =>
      intro x hn hR a w hs; obtain ⟨e, a₁, w₁, ⟨st₁, hs₁, hq⟩, harr⟩ := round x hR a w hs b (.inLoop c :: k) cs hro hb hr
      cases e with
      | normal =>
        obtain ⟨x', ht, hR', hlt⟩ := hq; obtain ⟨e₂, a₂, w₂, hq₂, harr₂⟩ := ih (μ x') (hn ▸ hlt) x' rfl hR' a₁ w₁ (ht E N a₁ w₁ hs₁); exact ⟨e₂, a₂, w₂, hq₂, .of_steps (StepsIn.trans harr (.one (fenced_calm hb hr rfl) stepR_inLoop)) harr₂⟩
      | exit id => exact ⟨_, a₁, w₁, ⟨st₁, hs₁, hq⟩, .pass (x := .inLoop c) rfl (fun _ _ => .inl (by simp)) harr⟩
      | goto l => exact ⟨_, a₁, w₁, ⟨st₁, hs₁, hq⟩, .pass (x := .inLoop c) rfl (fun _ _ => .inl (by simp)) harr⟩
      | ret => exact ⟨_, a₁, w₁, ⟨st₁, hs₁, hq⟩, .pass (x := .inLoop c) rfl (fun _ _ => .inl (by simp)) harr⟩
      | panic ch => exact ⟨_, a₁, w₁, ⟨st₁, hs₁, hq⟩, .pass (x := .inLoop c) rfl (fun _ _ => .inl (by simp)) harr⟩
      | outgrown => exact ⟨_, a₁, w₁, ⟨st₁, hs₁, hq⟩, .pass (x := .inLoop c) rfl (fun _ _ => .inl (by simp)) harr⟩
  subst hst; obtain ⟨e, a', w', hq, harr⟩ := key _ x0 rfl h0 a w hs; exact ⟨e, a', w', hq, .of_steps (.one (fenced_calm hb hr rfl) stepR_loop) harr⟩

theorem AW.backR {α : Type} {S : α → St} {R : α → Prop} {μ : α → Nat} {x : α} (x' : α) (hs : Turn st (S x')) (hR : R x') (hμ : μ x' < μ x) : ∃ x', Turn st (S x') ∧ R x' ∧ μ x' < μ x :=
  ⟨x', hs, hR, hμ⟩

end
end Go.Am


namespace Go.Am
open List
variable [U : Univ]
attribute [local irreducible] OFF

section
variable {E : Ent} {N : Nat} {P : Program} {c : Code} {Q : Exit → St → Prop} {st st' : St} {a : Act} {w : World}

end
end Go.Am
