/-
  A part of the proof of this claim (AnV): what functions of the program compute, and plain facts of that. No conditions.
-/
import Derived.Test.YtodcdgolcbdkgaaAnU
set_option linter.all false
/-! An array without slices is a tree. -/
namespace Go.Am
variable [U : Univ]
section
variable {P : Program} {E : Ent} {N : Nat} {Q : Exit → St → Prop} {st : St} {c : Code}

theorem look_map (sv : SV) (l : List (Nat × SV)) (i : Nat) : ∀ (ss : List Nat), (i ∈ ss → lookS (ss.map (fun s => (s, sv)) ++ l) i = sv) ∧ (i ∉ ss → lookS (ss.map (fun s => (s, sv)) ++ l) i = lookS l i) := by
  intro ss
  induction ss with
  | nil => exact ⟨fun h => (List.not_mem_nil h).elim, fun _ => rfl⟩
  | cons s ss ih =>
    constructor
    · intro h; show (bif Nat.beq i s then sv else lookS (ss.map (fun s => (s, sv)) ++ l) i) = sv
      cases e : Nat.beq i s with
      | true => rfl
      | false =>
        rw [cond_false]; refine ih.1 ((List.mem_cons.1 h).resolve_left fun h2 => ?_); rw [h2, Nat.beq_refl] at e; cases e
    · intro h; show (bif Nat.beq i s then sv else lookS (ss.map (fun s => (s, sv)) ++ l) i) = _
      cases e : Nat.beq i s with
      | true => exact absurd (Nat.eq_of_beq_eq_true e) fun h2 => h (h2 ▸ List.Mem.head _)
      | false =>
        rw [cond_false]; exact ih.2 fun h2 => h (List.Mem.tail _ h2)

theorem AW.treed (ss : List Nat) (id ep : Nat) (t : Ty) (xs : List t.den) (hs : ∀ s ∈ ss, st.env s = .arr id ep) (hm : st.memf id = some (.arr ep t xs)) (hf : t.flatN 64 = true)
    (h : AW P E N c Q ⟨ss.map (fun s => (s, .tr id (ep + 1))) ++ st.slots, (id, .tree (ep + 1) t xs) :: st.mem⟩) : AW P E N c Q st := by
  rintro a w ⟨β, hw⟩; refine h a w ⟨β, ?_⟩; generalize hS : (⟨ss.map (fun s => (s, .tr id (ep + 1))) ++ st.slots, (id, .tree (ep + 1) t xs) :: st.mem⟩ : St) = S
  have hmem : ∀ i, i ≠ id → S.memf i = st.memf i := by
    intro i hi; subst hS; show lookM _ i = _; simp only [lookM]; (have : Nat.beq i id = false := by rw [Bool.eq_false_iff]; intro e; exact hi (Nat.eq_of_beq_eq_true e)); rw [this, cond_false]; rfl
  have hid : S.memf id = some (.tree (ep + 1) t xs) := by
    subst hS; show lookM _ id = _; simp only [lookM]; rw [show Nat.beq id id = true from Nat.beq_refl id, cond_true]
  have hmono : ∀ i k, st.memf i = some k → ∃ k', S.memf i = some k' ∧ k.ep ≤ k'.ep ∧ (k.ep = k'.ep → k.alike k' ∧ β i = β i) := by
    intro i k hk; by_cases hi : i = id
    · subst hi; rw [hm] at hk; obtain rfl := Option.some.inj hk; exact ⟨_, hid, Nat.le_succ _, fun e => absurd (show ep = ep + 1 from e) (by omega)⟩
    · exact ⟨k, by rw [hmem i hi]; exact hk, Nat.le_refl _, fun _ => ⟨k.alike_refl, rfl⟩⟩
  exact {
    defers := hw.defers, size := hw.size, hN := hw.hN, os := hw.os, tape := hw.tape, output := hw.output, grow := hw.grow, old := hw.old, inj := hw.inj
    dom := by
      intro i b D e; obtain ⟨⟨k, hk, hb⟩, h2⟩ := hw.dom i b D e; by_cases hi : i = id
      · subst hi; rw [hm] at hk; obtain rfl := Option.some.inj hk; exact ⟨⟨_, hid, hb⟩, h2⟩
      · exact ⟨⟨k, by rw [hmem i hi]; exact hk, hb⟩, h2⟩
    own := by
      intro b i e; obtain ⟨⟨k, hk, ht⟩, h2⟩ := hw.own b i e; by_cases hi : i = id
      · subst hi; exact ⟨⟨_, hid, rfl⟩, h2⟩
      · exact ⟨⟨k, by rw [hmem i hi]; exact hk, ht⟩, h2⟩
    blk := by
      intro i k hk; by_cases hi : i = id
      · subst hi; rw [hid] at hk; obtain rfl := Option.some.inj hk; obtain ⟨h1, h2⟩ := hw.blk i _ hm; refine ⟨h1, ?_⟩; rcases h2 with h2 | ⟨b, C, cs, el, css, b1, b2, b3, b4, b5⟩
        · exact .inl h2
        · refine .inr ⟨b, C, cs, el, css, fun _ _ => False, b1, b2, b3, b4, fun _ _ _ h => h.elim, fun _ _ _ _ _ h => h.elim, fun k hk => ?_⟩; obtain ⟨c1, c2, c3⟩ := b5 k hk; exact ⟨c1, c2, RepC.toO _ hf c3⟩
      · rw [hmem i hi] at hk; exact (hw.blk i k hk).mono (fun b hb => ⟨hb, rfl⟩) hmono rfl (fun _ _ _ => rfl) (fun _ _ hc => ⟨hc, rfl⟩)
    slot := by
      intro i; by_cases hi : i ∈ ss
      · have h1 : S.env i = .tr id (ep + 1) := by
          subst hS; exact (look_map _ _ i ss).1 hi
        have h2 := hw.slot i; rw [hs i hi] at h2; rw [h1]; generalize slotV E a i = v at h2
        cases h2 with
        | arr _ _ _ m1 m2 m3 =>
          refine .tr _ _ _ ⟨_, hid, Nat.le_refl _⟩ m2 fun u ys hx => ?_; rw [hid] at hx; simp only [Option.some.injEq, Blk.tree.injEq, true_and] at hx; obtain ⟨rfl, hx⟩ := hx; obtain rfl := eq_of_heq hx; exact m3 t xs hm
      · have h1 : S.env i = st.env i := by
          subst hS; exact (look_map _ _ i ss).2 hi
        rw [h1]; exact (hw.slot i).mono (fun b hb => ⟨hb, rfl⟩) hmono
    par := by
      intro i c hc; (have hi : i ≠ id := by rintro rfl; rw [hid] at hc; cases hc); rw [hmem i hi] at hc
      exact hw.par i c hc }

theorem AW.treedB (bid bep j : Nat) (cells : List SV) (id ep : Nat) (t : Ty) (xs : List t.den) (hb : st.memf bid = some (.box bep cells)) (hj : cells[j]? = some (.arr id ep)) (hm : st.memf id = some (.arr ep t xs)) (hf : t.flatN 64 = true)
    (h : AW P E N c Q ⟨st.slots, (id, .tree (ep + 1) t xs) :: (bid, .box bep (cells.set j (.tr id (ep + 1)))) :: st.mem⟩) : AW P E N c Q st := by
  rintro a w ⟨β, hw⟩; refine h a w ⟨β, ?_⟩; (have hne : bid ≠ id := by rintro rfl; rw [hm] at hb; cases hb); generalize hS : (⟨st.slots, (id, .tree (ep + 1) t xs) :: (bid, .box bep (cells.set j (.tr id (ep + 1)))) :: st.mem⟩ : St) = S; have hbeq : ∀ {x y : Nat}, x ≠ y → Nat.beq x y = false := fun hxy => by rw [Bool.eq_false_iff]; intro e; exact hxy (Nat.eq_of_beq_eq_true e)
  have hid : S.memf id = some (.tree (ep + 1) t xs) := by
    subst hS; show lookM _ id = _; simp only [lookM]; rw [show Nat.beq id id = true from Nat.beq_refl id, cond_true]
  have hbid : S.memf bid = some (.box bep (cells.set j (.tr id (ep + 1)))) := by
    subst hS; show lookM _ bid = _; simp only [lookM]; rw [hbeq hne, cond_false, show Nat.beq bid bid = true from Nat.beq_refl bid, cond_true]
  have hmem : ∀ i, i ≠ id → i ≠ bid → S.memf i = st.memf i := by
    intro i hi hi2; subst hS; show lookM _ i = _; simp only [lookM]; rw [hbeq hi, cond_false, hbeq hi2, cond_false]; rfl
  have henv : S.env = st.env := by subst hS; rfl
  have hmono : ∀ i k, st.memf i = some k → ∃ k', S.memf i = some k' ∧ k.ep ≤ k'.ep ∧ (k.ep = k'.ep → k.alike k' ∧ β i = β i) := by
    intro i k hk; by_cases hi : i = id
    · subst hi; rw [hm] at hk; obtain rfl := Option.some.inj hk; exact ⟨_, hid, Nat.le_succ _, fun e => absurd (show ep = ep + 1 from e) (by omega)⟩
    · by_cases hi2 : i = bid
      · subst hi2; rw [hb] at hk; obtain rfl := Option.some.inj hk; exact ⟨_, hbid, Nat.le_refl _, fun _ => ⟨trivial, rfl⟩⟩
      · exact ⟨k, by rw [hmem i hi hi2]; exact hk, Nat.le_refl _, fun _ => ⟨k.alike_refl, rfl⟩⟩
  have harr : ∀ {v : Value}, RepSV (allow E w β) w β st.memf (.arr id ep) v → RepSV (allow E w β) w β S.memf (.tr id (ep + 1)) v := by
    intro v hv
    cases hv with
    | arr _ _ _ m1 m2 m3 =>
      refine .tr _ _ _ ⟨_, hid, Nat.le_refl _⟩ m2 fun u ys hx => ?_; rw [hid] at hx; simp only [Option.some.injEq, Blk.tree.injEq, true_and] at hx; obtain ⟨rfl, hx⟩ := hx; obtain rfl := eq_of_heq hx; exact m3 t xs hm
  exact {
    defers := hw.defers, size := hw.size, hN := hw.hN, os := hw.os, tape := hw.tape, output := hw.output, grow := hw.grow, old := hw.old, inj := hw.inj
    dom := by
      intro i b D e; obtain ⟨⟨k, hk, hkb⟩, h2⟩ := hw.dom i b D e; by_cases hi : i = id
      · subst hi; rw [hm] at hk; obtain rfl := Option.some.inj hk; exact ⟨⟨_, hid, hkb⟩, h2⟩
      · by_cases hi2 : i = bid
        · subst hi2; exact ⟨⟨_, hbid, fun _ => rfl⟩, h2⟩
        · exact ⟨⟨k, by rw [hmem i hi hi2]; exact hk, hkb⟩, h2⟩
    own := by
      intro b i e; obtain ⟨⟨k, hk, ht⟩, h2⟩ := hw.own b i e; by_cases hi : i = id
      · subst hi; exact ⟨⟨_, hid, rfl⟩, h2⟩
      · have hi2 : i ≠ bid := by
          rintro rfl; rw [hb] at hk; obtain rfl := Option.some.inj hk; cases ht
        exact ⟨⟨k, by rw [hmem i hi hi2]; exact hk, ht⟩, h2⟩
    blk := by
      intro i k hk; by_cases hi : i = id
      · subst hi; rw [hid] at hk; obtain rfl := Option.some.inj hk; obtain ⟨h1, h2⟩ := hw.blk i _ hm; refine ⟨h1, ?_⟩; rcases h2 with h2 | ⟨b, C, cs, el, css, b1, b2, b3, b4, b5⟩
        · exact .inl h2
        · refine .inr ⟨b, C, cs, el, css, fun _ _ => False, b1, b2, b3, b4, fun _ _ _ h => h.elim, fun _ _ _ _ _ h => h.elim, fun k hk => ?_⟩; obtain ⟨c1, c2, c3⟩ := b5 k hk; exact ⟨c1, c2, RepC.toO _ hf c3⟩
      · by_cases hi2 : i = bid
        · subst hi2; rw [hbid] at hk; obtain rfl := Option.some.inj hk; obtain ⟨b, D, cs, el, h1, h2, h3, h4⟩ := hw.blk _ _ hb; refine ⟨b, D, cs, el, h1, h2, by rw [List.length_set]; exact h3, fun q sv hq => ?_⟩; rw [List.getElem?_set] at hq; by_cases hjq : j = q
          · subst hjq; have hjl : j < cells.length := (List.getElem?_eq_some_iff.1 hj).1; rw [if_pos rfl, if_pos hjl] at hq; obtain rfl := Option.some.inj hq; obtain ⟨v, hv, hv1, hr⟩ := h4 j _ hj; exact ⟨v, hv, hv1, harr hr⟩
          · rw [if_neg hjq] at hq; obtain ⟨v, hv, hv1, hr⟩ := h4 q sv hq; exact ⟨v, hv, hv1, hr.mono (fun b hb => ⟨hb, rfl⟩) hmono⟩
        · rw [hmem i hi hi2] at hk; exact (hw.blk i k hk).mono (fun b hb => ⟨hb, rfl⟩) hmono rfl (fun _ _ _ => rfl) (fun _ _ hc => ⟨hc, rfl⟩)
    slot := by
      intro i; rw [henv]; exact (hw.slot i).mono (fun b hb => ⟨hb, rfl⟩) hmono
    par := by
      intro i c hc; by_cases hi : i = id
      · subst hi; rw [hid] at hc; cases hc
      · by_cases hi2 : i = bid
        · subst hi2; rw [hbid] at hc; simp only [Option.some.injEq, Blk.box.injEq] at hc; obtain ⟨rfl, _⟩ := hc; exact hw.par _ _ hb
        · rw [hmem i hi hi2] at hc
          exact hw.par i c hc }

end
end Go.Am
