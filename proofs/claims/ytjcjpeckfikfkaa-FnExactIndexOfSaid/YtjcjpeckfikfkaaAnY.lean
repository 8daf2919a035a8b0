/-
  An, part Y: what a call gives laid out in names; elements taken out of a tree.
-/
import Derived.Test.YtjcjpeckfikfkaaAmN
set_option linter.all false
namespace Go.Am
variable [U : Univ]

theorem updm_find : ∀ (l : List (Nat × Blk)) (mem : Nat → Option Blk) (i : Nat), (l.map (·.1)).Nodup → updm mem l i = match findPart i l with
    | some k => some k
    | none => mem i := by
  intro l
  induction l with
  | nil => intro mem i _; rfl
  | cons x l ih =>
    obtain ⟨j, k⟩ := x; intro mem i hnd; simp only [List.map_cons, List.nodup_cons] at hnd; rw [updm_cons, ih _ _ hnd.2]; simp only [findPart]; by_cases hji : j = i
    · subst hji
      have : findPart j l = none := by
        have : ∀ l : List (Nat × Blk), j ∉ l.map (·.1) → findPart j l = none := by
          intro l
          induction l with
          | nil => intro _; rfl
          | cons y l ih =>
            intro hn; simp only [List.map_cons, List.mem_cons, not_or] at hn; simp only [findPart]; rw [if_neg (Ne.symm hn.1)]; exact ih hn.2
        exact this l hnd.1
      rw [this, if_pos rfl]; exact setm_same _ _ _
    · rw [if_neg hji]
      cases findPart i l with
      | some k => rfl
      | none => exact setm_ne _ _ (Ne.symm hji)

omit U in
theorem findPart_get {α : Type} : ∀ {l : List (Nat × α)} {j i : Nat} {k : α}, (l.map (·.1)).Nodup → l[j]? = some (i, k) → findPart i l = some k := by
  intro l
  induction l with
  | nil => intro j i k _ h; simp at h
  | cons x l ih =>
    intro j i k hnd h; simp only [List.map_cons, List.nodup_cons] at hnd
    cases j with
    | zero =>
      simp only [List.getElem?_cons_zero, Option.some.injEq] at h; subst h; simp [findPart]
    | succ j =>
      simp only [List.getElem?_cons_succ] at h; simp only [findPart]; rw [if_neg]
      · exact ih hnd.2 h
      · intro e; exact hnd.1 (by rw [e]; exact List.mem_map.2 ⟨(i, k), List.mem_of_getElem? h, rfl⟩)

omit U in
theorem findPart_some {α : Type} : ∀ {l : List (Nat × α)} {i : Nat} {k : α}, findPart i l = some k → ∃ j : Nat, l[j]? = some (i, k) := by
  intro l
  induction l with
  | nil => intro i k h; simp [findPart] at h
  | cons x l ih =>
    intro i k h; simp only [findPart] at h; split at h
    · rename_i e; refine ⟨0, ?_⟩; obtain rfl := Option.some.inj h; rw [← e]; rfl
    · obtain ⟨j, hj⟩ := ih h; exact ⟨j + 1, by simpa using hj⟩

omit U in
theorem findPart_none {α : Type} : ∀ {l : List (Nat × α)} {i : Nat}, findPart i l = none → ∀ k, (i, k) ∉ l := by
  intro l
  induction l with
  | nil => intro i _ k h; cases h
  | cons x l ih =>
    intro i h k hm; simp only [findPart] at h; split at h
    · simp at h
    · rename_i e; rcases List.mem_cons.1 hm with hm | hm
      · exact e (by rw [← hm])
      · exact ih h k hm

section
variable {E : Ent} {N : Nat} {env : Nat → SV} {mem : Nat → Option Blk} {a : Act} {w : World} {β : Bind} {P : Program} {C : Ctx}

structure Fresh (mem : Nat → Option Blk) (id hi : Nat) (ms : List (Nat × Blk)) (S : Nat → Prop) (bc : Nat → Option (Nat × Nat)) (O : Nat → Nat → Prop) : Prop where
  le : id ≤ hi
  rng : ∀ i k, (i, k) ∈ ms → (id ≤ i ∧ i < hi) ∧ k.ep ≠ 0 ∧ ∀ k0, mem i = some k0 → k0.ep < k.ep
  nd : (ms.map (·.1)).Nodup
  bcS : ∀ i b D, bc i = some (b, D) → S b ∧ ∃ k, (i, k) ∈ ms
  oS : ∀ i b, O i b → S b ∧ ∃ k, (i, k) ∈ ms ∧ k.isTree = true
  inj : ∀ i j b C D, bc i = some (b, C) → bc j = some (b, D) → i = j
  oinj : ∀ i j b, O i b → O j b → i = j
  dis : ∀ i j b C, bc i = some (b, C) → ¬ O j b

def Look (ms : List (Nat × Blk)) (bc : Nat → Option (Nat × Nat)) (O : Nat → Nat → Prop) (β' : Bind) (mem' : Nat → Option Blk) : Prop :=
  ∀ i k, (i, k) ∈ ms → mem' i = some k ∧ β' i = bc i ∧ ∀ b, O i b → β'.own b = some i

theorem Fresh.nil (id hi : Nat) (h : id ≤ hi) (S : Nat → Prop) : Fresh mem id hi [] S (fun _ => none) (fun _ _ => False) where
  le := h
  rng := by simp
  nd := List.nodup_nil
  bcS := by simp
  oS := by simp
  inj := by simp
  oinj := by simp
  dis := by simp

theorem Fresh.one {id : Nat} {k : Blk} {S : Nat → Prop} (bc : Option (Nat × Nat)) (O : Nat → Prop) (hep : k.ep ≠ 0 ∧ ∀ k0, mem id = some k0 → k0.ep < k.ep) (hb : ∀ b D, bc = some (b, D) → S b ∧ ¬ O b)
    (hO : ∀ b, O b → S b ∧ k.isTree = true) : Fresh mem id (id + 1) [(id, k)] S (fun i => if i = id then bc else none) (fun i b => i = id ∧ O b) where
  le := Nat.le_succ _
  rng := by
    intro i k' h; simp only [List.mem_singleton, Prod.mk.injEq] at h; obtain ⟨rfl, rfl⟩ := h; exact ⟨⟨Nat.le_refl _, Nat.lt_succ_self _⟩, hep⟩
  nd := by simp
  bcS := by
    intro i b D h; by_cases e : i = id
    · rw [if_pos e] at h; exact ⟨(hb b D h).1, k, by simp [e]⟩
    · rw [if_neg e] at h; cases h
  oS := by
    rintro i b ⟨rfl, h⟩; exact ⟨(hO b h).1, k, by simp, (hO b h).2⟩
  inj := by
    intro i j b C D h1 h2; by_cases e : i = id
    · by_cases e2 : j = id
      · rw [e, e2]
      · rw [if_neg e2] at h2; cases h2
    · rw [if_neg e] at h1; cases h1
  oinj := by
    rintro i j b ⟨rfl, _⟩ ⟨rfl, _⟩; rfl
  dis := by
    rintro i j b C h1 ⟨_, h2⟩; by_cases e : i = id
    · rw [if_pos e] at h1; exact (hb b C h1).2 h2
    · rw [if_neg e] at h1; cases h1

theorem Look.one {id : Nat} {k : Blk} {bc : Option (Nat × Nat)} {O : Nat → Prop} {β' : Bind} {mem' : Nat → Option Blk} (h : Look [(id, k)] (fun i => if i = id then bc else none) (fun i b => i = id ∧ O b) β' mem') :
    mem' id = some k ∧ β' id = bc ∧ ∀ b, O b → β'.own b = some id := by
  obtain ⟨h1, h2, h3⟩ := h id k (List.mem_singleton.2 rfl); exact ⟨h1, by simpa using h2, fun b hb => h3 b ⟨rfl, hb⟩⟩

theorem Fresh.append {id mid hi : Nat} {m1 m2 : List (Nat × Blk)} {S1 S2 S : Nat → Prop} {b1 b2 : Nat → Option (Nat × Nat)} {O1 O2 : Nat → Nat → Prop} (h1 : Fresh mem id mid m1 S1 b1 O1) (h2 : Fresh mem mid hi m2 S2 b2 O2)
    (s1 : ∀ b, S1 b → S b) (s2 : ∀ b, S2 b → S b) (hd : ∀ b, S1 b → ¬ S2 b) :
    Fresh mem id hi (m1 ++ m2) S (fun i => if i < mid then b1 i else b2 i) (fun i b => if i < mid then O1 i b else O2 i b) ∧
      ∀ (β' : Bind) (mem' : Nat → Option Blk), Look (m1 ++ m2) (fun i => if i < mid then b1 i else b2 i) (fun i b => if i < mid then O1 i b else O2 i b) β' mem' → Look m1 b1 O1 β' mem' ∧ Look m2 b2 O2 β' mem' := by
  (have c1 : ∀ i b D, b1 i = some (b, D) → i < mid := fun i b D e => by obtain ⟨_, k, hk⟩ := h1.bcS i b D e; exact (h1.rng i k hk).1.2); refine ⟨⟨Nat.le_trans h1.le h2.le, ?_, ?_, ?_, ?_, ?_, ?_, ?_⟩, ?_⟩
  · intro i k hk; rcases List.mem_append.1 hk with hk | hk
    · obtain ⟨⟨r1, r2⟩, r3⟩ := h1.rng i k hk; exact ⟨⟨r1, Nat.lt_of_lt_of_le r2 h2.le⟩, r3⟩
    · obtain ⟨⟨r1, r2⟩, r3⟩ := h2.rng i k hk; exact ⟨⟨Nat.le_trans h1.le r1, r2⟩, r3⟩
  · rw [List.map_append]; refine List.nodup_append.2 ⟨h1.nd, h2.nd, fun x hx y hy e => ?_⟩; obtain ⟨⟨i, k⟩, hm, rfl⟩ := List.mem_map.1 hx; obtain ⟨⟨j, k'⟩, hm2, rfl⟩ := List.mem_map.1 hy; have := (h1.rng i k hm).1.2; have := (h2.rng j k' hm2).1.1; simp only at e; omega
  · intro i b D e; by_cases hlt : i < mid
    · simp only [if_pos hlt] at e; obtain ⟨p1, k, p2⟩ := h1.bcS i b D e; exact ⟨s1 b p1, k, List.mem_append_left _ p2⟩
    · simp only [if_neg hlt] at e; obtain ⟨p1, k, p2⟩ := h2.bcS i b D e; exact ⟨s2 b p1, k, List.mem_append_right _ p2⟩
  · intro i b e; by_cases hlt : i < mid
    · simp only [if_pos hlt] at e; obtain ⟨p1, k, p2, p3⟩ := h1.oS i b e; exact ⟨s1 b p1, k, List.mem_append_left _ p2, p3⟩
    · simp only [if_neg hlt] at e; obtain ⟨p1, k, p2, p3⟩ := h2.oS i b e; exact ⟨s2 b p1, k, List.mem_append_right _ p2, p3⟩
  · intro i j b C D e1 e2; by_cases hi : i < mid <;> by_cases hj : j < mid
    · simp only [if_pos hi] at e1; simp only [if_pos hj] at e2; exact h1.inj i j b C D e1 e2
    · simp only [if_pos hi] at e1; simp only [if_neg hj] at e2; exact absurd (h2.bcS j b D e2).1 (hd b (h1.bcS i b C e1).1)
    · simp only [if_neg hi] at e1; simp only [if_pos hj] at e2; exact absurd (h2.bcS i b C e1).1 (hd b (h1.bcS j b D e2).1)
    · simp only [if_neg hi] at e1; simp only [if_neg hj] at e2; exact h2.inj i j b C D e1 e2
  · intro i j b e1 e2; by_cases hi : i < mid <;> by_cases hj : j < mid
    · simp only [if_pos hi] at e1; simp only [if_pos hj] at e2; exact h1.oinj i j b e1 e2
    · simp only [if_pos hi] at e1; simp only [if_neg hj] at e2; exact absurd (h2.oS j b e2).1 (hd b (h1.oS i b e1).1)
    · simp only [if_neg hi] at e1; simp only [if_pos hj] at e2; exact absurd (h2.oS i b e1).1 (hd b (h1.oS j b e2).1)
    · simp only [if_neg hi] at e1; simp only [if_neg hj] at e2; exact h2.oinj i j b e1 e2
  · intro i j b C e1 e2; by_cases hi : i < mid <;> by_cases hj : j < mid
    · simp only [if_pos hi] at e1; simp only [if_pos hj] at e2; exact h1.dis i j b C e1 e2
    · simp only [if_pos hi] at e1; simp only [if_neg hj] at e2; exact absurd (h2.oS j b e2).1 (hd b (h1.bcS i b C e1).1)
    · simp only [if_neg hi] at e1; simp only [if_pos hj] at e2; exact absurd (h2.bcS i b C e1).1 (hd b (h1.oS j b e2).1)
    · simp only [if_neg hi] at e1; simp only [if_neg hj] at e2; exact h2.dis i j b C e1 e2
  · intro β' mem' hl; refine ⟨fun i k hk => ?_, fun i k hk => ?_⟩
    · obtain ⟨l1, l2, l3⟩ := hl i k (List.mem_append_left _ hk); have hlt := (h1.rng i k hk).1.2; simp only [if_pos hlt] at l2 l3; exact ⟨l1, l2, l3⟩
    · obtain ⟨l1, l2, l3⟩ := hl i k (List.mem_append_right _ hk); (have hlt : ¬ i < mid := by have := (h2.rng i k hk).1.1; omega); simp only [if_neg hlt] at l2 l3; exact ⟨l1, l2, l3⟩

theorem Fresh.mono {id hi : Nat} {ms : List (Nat × Blk)} {S S' : Nat → Prop} {bc : Nat → Option (Nat × Nat)} {O : Nat → Nat → Prop} (h : Fresh mem id hi ms S bc O) (hS : ∀ b, S b → S' b) : Fresh mem id hi ms S' bc O :=
  { h with bcS := fun i b D e => ⟨hS b (h.bcS i b D e).1, (h.bcS i b D e).2⟩, oS := fun i b e => ⟨hS b (h.oS i b e).1, (h.oS i b e).2⟩ }

def Got (w' : World) (mem : Nat → Option Blk) (id : Nat) (svs : List SV) (cs : List Value) (ms : List (Nat × Blk)) (S : Nat → Prop) : Prop :=
  ∃ bc O, Fresh mem id (id + ms.length) ms S bc O ∧ ∀ (Q : Nat → Prop) (β' : Bind) (mem' : Nat → Option Blk), Look ms bc O β' mem' →
    svs.length = cs.length ∧ (∀ (i : Nat) (sv : SV) (v : Value), svs[i]? = some sv → cs[i]? = some v → RepSV Q w' β' mem' sv v) ∧ ∀ i k, (i, k) ∈ ms → RepBlk Q w' β' mem' i k

theorem Got.plain {w' : World} {id : Nat} {sv : SV} {v : Value} {S : Nat → Prop} (h : ∀ (Q : Nat → Prop) (β' : Bind) (mem' : Nat → Option Blk), RepSV Q w' β' mem' sv v) : Got w' mem id [sv] [v] [] S := by
  refine ⟨_, _, Fresh.nil id _ (Nat.le_refl _) S, fun Q β' mem' _ => ⟨rfl, fun i sv' v' hi hj => ?_, by simp⟩⟩
  match i, hi, hj with
  | 0, hi, hj =>
    simp only [List.getElem?_cons_zero, Option.some.injEq] at hi hj; subst hi hj; exact h Q β' mem'

theorem deepL_sound {w' : World} {go : Nat → TV → Rd (List SV × List (Nat × Blk))}
    (hgo : ∀ (id : Nat) (t : Ty) (x : t.den) (cs : List Value) (S : Nat → Prop) (svs : List SV) (ms : List (Nat × Blk)), (go id ⟨t, x⟩).eval mem = some (svs, ms) → RepO w' t x cs S → Got w' mem id svs cs ms S) :
    ∀ (l : List TV) (id : Nat) (cs : List Value) (S : Nat → Prop) (svs : List SV) (ms : List (Nat × Blk)), (deepL go id l).eval mem = some (svs, ms) → RepOL w' l cs S → Got w' mem id svs cs ms S := by
  intro l
  induction l with
  | nil =>
    intro id cs S svs ms hs hr; simp only [deepL, Rd.eval, Option.some.injEq, Prod.mk.injEq] at hs; obtain ⟨rfl, rfl⟩ := hs; cases hr; exact ⟨_, _, Fresh.nil id _ (Nat.le_refl _) S, fun Q β' mem' _ => ⟨rfl, by simp, by simp⟩⟩
  | cons tv r ih =>
    intro id cs S svs ms hs hr; simp only [deepL] at hs; obtain ⟨⟨c1, m1⟩, h1, hs⟩ := Rd.bind_some hs; obtain ⟨⟨c2, m2⟩, h2, hs⟩ := Rd.bind_some hs; simp only [Rd.eval, Option.some.injEq, Prod.mk.injEq] at hs; obtain ⟨rfl, rfl⟩ := hs
    cases hr with
    | cons t x r cs ds S1 S2 S h k s1 s2 hd =>
      obtain ⟨b1, O1, f1, g1⟩ := hgo id t x cs S1 c1 m1 h1 h; obtain ⟨b2, O2, f2, g2⟩ := ih (id + m1.length) ds S2 c2 m2 h2 k; obtain ⟨f, hl⟩ := f1.append f2 s1 s2 hd; refine ⟨_, _, by rw [List.length_append, ← Nat.add_assoc]; exact f, fun Q β' mem' hlook => ?_⟩; obtain ⟨l1, l2⟩ := hl β' mem' hlook; obtain ⟨p1, p2, p3⟩ := g1 Q β' mem' l1; obtain ⟨q1, q2, q3⟩ := g2 Q β' mem' l2; refine ⟨by simp [p1, q1], fun i sv v hi hj => ?_, fun i k hk => ?_⟩
      · by_cases hlt : i < c1.length
        · rw [List.getElem?_append_left hlt] at hi; rw [List.getElem?_append_left (by omega)] at hj; exact p2 i sv v hi hj
        · rw [List.getElem?_append_right (by omega)] at hi; rw [List.getElem?_append_right (by omega), ← p1] at hj; exact q2 _ sv v hi hj
      · rcases List.mem_append.1 hk with hk | hk
        · exact p3 i k hk
        · exact q3 i k hk

theorem deepCells_sound {w' : World} : ∀ (f id : Nat) (t : Ty) (x : t.den) (cs : List Value) (S : Nat → Prop) (svs : List SV) (ms : List (Nat × Blk)), (deepCells f id ⟨t, x⟩).eval mem = some (svs, ms) → RepO w' t x cs S → Got w' mem id svs cs ms S := by
  have plain : ∀ (id : Nat) (t : Ty) (x : t.den) (cs : List Value) (S : Nat → Prop) (svs : List SV) (ms : List (Nat × Blk)) (f : Nat), (∀ n, t ≠ .named n) → (deepCells f id ⟨t, x⟩).eval mem = some (svs, ms) → RepO w' t x cs S → Got w' mem id svs cs ms S := by
    intro id t x cs S svs ms f ht hs hr
    cases hr with
    | int k n S lo hi =>
      cases f <;> (simp only [deepCells, Rd.eval, Option.some.injEq, Prod.mk.injEq] at hs; obtain ⟨rfl, rfl⟩ := hs; exact Got.plain fun _ _ _ => .int k n lo hi)
    | bool b S =>
      cases f <;> (simp only [deepCells, Rd.eval, Option.some.injEq, Prod.mk.injEq] at hs; obtain ⟨rfl, rfl⟩ := hs; exact Got.plain fun _ _ _ => .bool b)
    | str s S h =>
      cases f <;> (simp only [deepCells, Rd.eval, Option.some.injEq, Prod.mk.injEq] at hs; obtain ⟨rfl, rfl⟩ := hs; exact Got.plain fun _ _ _ => .str s h)
    | named n x cs S h => exact absurd rfl (ht n)
    | nil t S =>
      (have hs : ((freshEp id).bind fun ep => if t.flatN fuel then Rd.ret ([SV.arr id ep], [(id, Blk.arr ep t ([] : List t.den))]) else Rd.ret ([SV.tr id ep], [(id, Blk.tree ep t ([] : List t.den))])).eval mem = some (svs, ms) := by cases f <;> exact hs); obtain ⟨ep, hep, hs⟩ := Rd.bind_some hs; split at hs
      · simp only [Rd.eval, Option.some.injEq, Prod.mk.injEq] at hs; obtain ⟨rfl, rfl⟩ := hs; refine ⟨_, _, Fresh.one none (fun _ => False) (freshEp_some hep) (by simp) (by simp), fun Q β' mem' hl => ?_⟩; obtain ⟨hm, hb, _⟩ := hl.one; refine ⟨rfl, fun i sv v hi hj => ?_, fun i k hk => ?_⟩
        · match i, hi, hj with
          | 0, hi, hj =>
            simp only [List.getElem?_cons_zero, Option.some.injEq] at hi hj; subst hi hj; refine .arr _ _ _ ⟨_, hm, Nat.le_refl _⟩ rfl fun u zs hz => ?_; rw [hm] at hz; simp only [Option.some.injEq, Blk.arr.injEq, true_and] at hz; obtain ⟨rfl, hz⟩ := hz; obtain rfl := eq_of_heq hz; rw [hb]; exact ⟨rfl, rfl, rfl⟩
        · simp only [List.mem_singleton, Prod.mk.injEq] at hk; obtain ⟨rfl, rfl⟩ := hk; exact ⟨by simp, .inl ⟨hb, rfl⟩⟩
      · simp only [Rd.eval, Option.some.injEq, Prod.mk.injEq] at hs; obtain ⟨rfl, rfl⟩ := hs; refine ⟨_, _, Fresh.one none (fun _ => False) (freshEp_some hep) (by simp) (by simp), fun Q β' mem' hl => ?_⟩; obtain ⟨hm, hb, _⟩ := hl.one; refine ⟨rfl, fun i sv v hi hj => ?_, fun i k hk => ?_⟩
        · match i, hi, hj with
          | 0, hi, hj =>
            simp only [List.getElem?_cons_zero, Option.some.injEq] at hi hj; subst hi hj; refine .tr _ _ _ ⟨_, hm, Nat.le_refl _⟩ rfl fun u zs hz => ?_; rw [hm] at hz; replace hz := hz.at; simp only [Option.some.injEq, Blk.tree.injEq, true_and] at hz; obtain ⟨rfl, hz⟩ := hz; obtain rfl := eq_of_heq hz; rw [hb]; exact ⟨rfl, rfl, rfl⟩
        · simp only [List.mem_singleton, Prod.mk.injEq] at hk; obtain ⟨rfl, rfl⟩ := hk; exact ⟨by simp, .inl ⟨hb, rfl⟩⟩
    | slice t xs b D cs el css T S hlim hh hsz hD hSb hlen hc hS hd hr =>
      (have hs : ((freshEp id).bind fun ep => if t.flatN fuel then Rd.ret ([SV.arr id ep], [(id, Blk.arr ep t xs)]) else Rd.ret ([SV.tr id ep], [(id, Blk.tree ep t xs)])).eval mem = some (svs, ms) := by cases f <;> exact hs); obtain ⟨ep, hep, hs⟩ := Rd.bind_some hs; split at hs
      · rename_i hf; simp only [Rd.eval, Option.some.injEq, Prod.mk.injEq] at hs; obtain ⟨rfl, rfl⟩ := hs; refine ⟨_, _, Fresh.one (some (b, D)) (fun _ => False) (freshEp_some hep) (fun b' D' e => by simp only [Option.some.injEq, Prod.mk.injEq] at e; obtain ⟨rfl, rfl⟩ := e; exact ⟨hSb, fun h => h⟩) (by simp), fun Q β' mem' hl => ?_⟩; obtain ⟨hm, hb, _⟩ := hl.one; refine ⟨rfl, fun i sv v hi hj => ?_, fun i k hk => ?_⟩
        · match i, hi, hj with
          | 0, hi, hj =>
            simp only [List.getElem?_cons_zero, Option.some.injEq] at hi hj; subst hi hj; refine .arr _ _ _ ⟨_, hm, Nat.le_refl _⟩ rfl fun u zs hz => ?_; rw [hm] at hz; simp only [Option.some.injEq, Blk.arr.injEq, true_and] at hz; obtain ⟨rfl, hz⟩ := hz; obtain rfl := eq_of_heq hz; rw [hb]; exact ⟨_, rfl, by omega, fun _ => by simp⟩
        · simp only [List.mem_singleton, Prod.mk.injEq] at hk; obtain ⟨rfl, rfl⟩ := hk; exact ⟨hlim, .inr ⟨b, D, cs, el, css, hb, hh, hsz, hD, fun k hk => ⟨hlen k hk, fun j v hj => hc k j v hk hj, ((hr k hk).repC (A := T k) fun _ h => h).flat fuel hf⟩⟩⟩
      · simp only [Rd.eval, Option.some.injEq, Prod.mk.injEq] at hs; obtain ⟨rfl, rfl⟩ := hs
        refine ⟨_, _, Fresh.one (some (b, D)) (fun c => ∃ k, k < xs.length ∧ T k c) (freshEp_some hep) (fun b' D' e => by
            simp only [Option.some.injEq, Prod.mk.injEq] at e; obtain ⟨rfl, rfl⟩ := e
            exact ⟨hSb, fun ⟨k, hk, hT⟩ => (hS k b hk hT).2 rfl⟩) (fun c ⟨k, hk, hT⟩ => ⟨(hS k c hk hT).1, rfl⟩), fun Q β' mem' hl => ?_⟩
        obtain ⟨hm, hb, ho⟩ := hl.one; refine ⟨rfl, fun i sv v hi hj => ?_, fun i k hk => ?_⟩
        · match i, hi, hj with
          | 0, hi, hj =>
            simp only [List.getElem?_cons_zero, Option.some.injEq] at hi hj; subst hi hj; refine .tr _ _ _ ⟨_, hm, Nat.le_refl _⟩ rfl fun u zs hz => ?_; rw [hm] at hz; replace hz := hz.at; simp only [Option.some.injEq, Blk.tree.injEq, true_and] at hz; obtain ⟨rfl, hz⟩ := hz; obtain rfl := eq_of_heq hz; rw [hb]; exact ⟨_, rfl, by omega, fun _ => by simp⟩
        · simp only [List.mem_singleton, Prod.mk.injEq] at hk; obtain ⟨rfl, rfl⟩ := hk; exact ⟨hlim, .inr ⟨b, D, cs, el, css, T, hb, hh, hsz, hD, fun k c hk hT => ho c ⟨k, hk, hT⟩, fun j k c hj hk => hd j k c hj hk, fun k hk => ⟨hlen k hk, fun j v hj => hc k j v hk hj, hr k hk⟩⟩⟩
  intro f
  induction f with
  | zero =>
    intro id t x cs S svs ms hs hr
    cases t with
    | named n => simp [deepCells, Rd.eval] at hs
    | _ => exact plain id _ x cs S svs ms 0 (by simp) hs hr
  | succ f ih =>
    intro id t x cs S svs ms hs hr
    cases t with
    | named n =>
      simp only [deepCells] at hs
      cases hr with
      | named n x cs S h => exact deepL_sound ih _ _ _ _ _ _ hs h
    | _ => exact plain id _ x cs S svs ms (f + 1) (by simp) hs hr


theorem SimB.takeOut (h : SimB E N env mem a w β) {id nid ep i : Nat} {t : Ty} {xs : List t.den} (hm : mem id = some (.hole ep t xs [] none)) (hi : i < xs.length) {svs : List SV} {ms : List (Nat × Blk)}
    (hd : (deepCells fuel nid ⟨t, xs[i]⟩).eval mem = some (svs, ms)) (hid : ∀ m ∈ ms, m.1 ≠ id) :
    ∃ (β' : Bind) (b D : Nat) (cs : Array Value) (el : Nat) (css : List Value), SimB E N env (updm mem ((id, .hole ep t xs [i] none) :: ms)) a w β' ∧ β id = some (b, D) ∧ w.heap[b]? = some (.cells cs el (0, 0)) ∧ css.length = t.size ∧
      (∀ (j : Nat) (v : Value), css[j]? = some v → cs[i * t.size + j]? = some v) ∧ RepSV (allow E w β') w β' (updm mem ((id, .hole ep t xs [i] none) :: ms)) (.agg svs) (.agg css.toArray) := by
  classical
  obtain ⟨hl, b, D, cs, el, css, T, h1, h2, h3, h4, h0, h5, h6, h7⟩ := h.blk id _ hm; obtain ⟨g1, g2, g3⟩ := h7 i hi; have g3 := g3 (by simp); obtain ⟨bc, O, fr, got⟩ := deepCells_sound (mem := mem) fuel nid t xs[i] (css i) (T i) svs ms hd g3; have hown : ∀ c, T i c → β.own c = some id := fun c hc => h5 i c hi (by simp) hc
  have hnd : (((id, Blk.hole ep t xs [i] none) :: ms).map (·.1)).Nodup := by
    simp only [List.map_cons, List.nodup_cons]; exact ⟨fun hmem => by obtain ⟨m, hm1, hm2⟩ := List.mem_map.1 hmem; exact hid m hm1 hm2, fr.nd⟩
  generalize hL : (id, Blk.hole ep t xs [i] none) :: ms = L at hnd; let nm : Nat → Prop := fun j => ∃ k, (j, k) ∈ ms; let β' : Bind := ⟨fun j => if nm j then bc j else β j, fun c => if hc : ∃ j, O j c then some hc.choose else if T i c then none else if ∃ j, nm j ∧ β.own c = some j then none else β.own c⟩; have bm1 : ∀ j, nm j → β' j = bc j := fun j hj => if_pos hj; have bm2 : ∀ j, ¬ nm j → β' j = β j := fun j hj => if_neg hj
  have bo1 : ∀ j c, O j c → β'.own c = some j := by
    intro j c hc; have hex : ∃ j, O j c := ⟨j, hc⟩; show (if hc : ∃ j, O j c then some hc.choose else if T i c then none else if ∃ j, nm j ∧ β.own c = some j then none else β.own c) = _; rw [dif_pos hex, fr.oinj _ _ _ hex.choose_spec hc]
  have bo2 : ∀ c, ¬ T i c → (∀ j, nm j → β.own c ≠ some j) → β'.own c = β.own c := by
    intro c h1 h2; show (if hc : ∃ j, O j c then some hc.choose else if T i c then none else if ∃ j, nm j ∧ β.own c = some j then none else β.own c) = _; rw [dif_neg (fun ⟨j, hj⟩ => h1 (fr.oS j c hj).1), if_neg h1, if_neg (fun ⟨j, hj, e⟩ => h2 j hj e)]
  have bo3 : ∀ c j, β'.own c = some j → O j c ∨ (¬ T i c ∧ ¬ nm j ∧ β.own c = some j) := by
    intro c j e; change (if hc : ∃ j, O j c then some hc.choose else if T i c then none else if ∃ j, nm j ∧ β.own c = some j then none else β.own c) = _ at e; split at e
    · rename_i hex; obtain rfl := Option.some.inj e; exact .inl hex.choose_spec
    · split at e
      · cases e
      · rename_i h1; split at e
        · cases e
        · rename_i h2; exact .inr ⟨h1, fun hn => h2 ⟨j, hn, e⟩, e⟩
  have bo4 : ∀ c, β.own c = none → β'.own c = none := by
    intro c e; (have : ¬ T i c := fun hc => by rw [hown c hc] at e; cases e); rw [bo2 c this (fun j _ e' => by rw [e] at e'; cases e')]; exact e
  have m1 : updm mem L id = some (.hole ep t xs [i] none) := by rw [updm_find _ _ _ hnd, ← hL]; simp [findPart]
  have m2 : ∀ j k, (j, k) ∈ ms → updm mem L j = some k := by
    intro j k hk; obtain ⟨q, hq⟩ := List.getElem?_of_mem hk; rw [updm_find _ _ _ hnd, findPart_get (j := q + 1) hnd (by rw [← hL]; simpa using hq)]
  have m3 : ∀ j, j ≠ id → ¬ nm j → updm mem L j = mem j := by
    intro j hj hn; rw [updm_find _ _ _ hnd]
    have : findPart j ms = none := by
      cases e : findPart j ms with
      | none => rfl
      | some k =>
        obtain ⟨q, hq⟩ := findPart_some e; exact absurd ⟨k, List.mem_of_getElem? hq⟩ hn
    rw [← hL]; simp only [findPart, if_neg (Ne.symm hj), this]
  have nidn : ¬ nm id := fun ⟨k, hk⟩ => hid _ hk rfl; have look : Look ms bc O β' (updm mem L) := fun j k hk => ⟨m2 j k hk, bm1 j ⟨k, hk⟩, fun b hb => bo1 j b hb⟩; obtain ⟨q1, q2, q3⟩ := got (allow E w β') β' (updm mem L) look; refine ⟨β', b, D, cs, el, css i, h.evolve rfl rfl ⟨rfl, Nat.le_refl _⟩ (Nat.le_refl _) (fun _ _ _ => rfl) ?_ ?_ ?_ ?_ ?_ ?_ ?_ ?_, h1, h2, g1, g2, .agg _ _ q1 g3.one q2⟩
  · rintro c ⟨a1, a2, a3, a4⟩; refine ⟨⟨a1, a2, fun j C e => ?_, bo4 c a4⟩, rfl⟩; by_cases hn : nm j
    · rw [bm1 j hn] at e; have := hown c (fr.bcS j c C e).1
      rw [a4] at this
      cases this
    · rw [bm2 j hn] at e; exact a3 j C e
  · intro j k0 hk0; by_cases hj : j = id
    · rw [hj, hm] at hk0; obtain rfl := Option.some.inj hk0; rw [hj]; exact ⟨_, m1, Nat.le_refl _, fun _ => ⟨⟨rfl, rfl⟩, bm2 _ nidn⟩⟩
    · by_cases hn : nm j
      · obtain ⟨k, hk⟩ := hn; have := (fr.rng j k hk).2.2 k0 hk0; exact ⟨k, m2 j k hk, by omega, fun e => absurd e (by omega)⟩
      · exact ⟨k0, by rw [m3 j hj hn]; exact hk0, Nat.le_refl _, fun _ => ⟨k0.alike_refl, bm2 j hn⟩⟩
  · intro j c C e; by_cases hn : nm j
    · rw [bm1 j hn] at e; obtain ⟨hS, k, hk⟩ := fr.bcS j c C e; obtain ⟨_, o1, o2, _⟩ := h.own c id (hown c hS); exact ⟨⟨k, m2 j k hk, fun hb => by have := E.wb c hb; omega⟩, o1, .inr o2⟩
    · rw [bm2 j hn] at e; obtain ⟨⟨k0, hk0, hk1⟩, d2, d3⟩ := h.dom j c C e; refine ⟨?_, d2, d3⟩; by_cases hj : j = id
      · rw [hj, hm] at hk0; obtain rfl := Option.some.inj hk0; rw [hj]; exact ⟨_, m1, hk1⟩
      · exact ⟨k0, by rw [m3 j hj hn]; exact hk0, hk1⟩
  · intro x y c C1 C2 e1 e2; by_cases n1 : nm x <;> by_cases n2 : nm y
    · rw [bm1 x n1] at e1; rw [bm1 y n2] at e2; exact fr.inj x y c C1 C2 e1 e2
    · rw [bm1 x n1] at e1; rw [bm2 y n2] at e2; exact absurd e2 ((h.own c id (hown c (fr.bcS x c C1 e1).1)).2.2.2 y C2)
    · rw [bm2 x n1] at e1; rw [bm1 y n2] at e2; exact absurd e1 ((h.own c id (hown c (fr.bcS y c C2 e2).1)).2.2.2 x C1)
    · rw [bm2 x n1] at e1; rw [bm2 y n2] at e2; exact h.inj x y c C1 C2 e1 e2
  · intro c j e; rcases bo3 c j e with hO | ⟨n1, n2, e0⟩
    · obtain ⟨hS, k, hk, ht⟩ := fr.oS j c hO; obtain ⟨_, o1, o2, o3⟩ := h.own c id (hown c hS); refine ⟨⟨k, m2 j k hk, ht⟩, o1, o2, fun y C ey => ?_⟩; by_cases hn : nm y
      · rw [bm1 y hn] at ey; exact fr.dis y j c C ey hO
      · rw [bm2 y hn] at ey; exact o3 y C ey
    · obtain ⟨⟨k0, hk0, ht⟩, o1, o2, o3⟩ := h.own c j e0; refine ⟨?_, o1, o2, fun y C ey => ?_⟩
      · by_cases hj : j = id
        · rw [hj]; exact ⟨_, m1, rfl⟩
        · exact ⟨k0, by rw [m3 j hj n2]; exact hk0, ht⟩
      · by_cases hn : nm y
        · rw [bm1 y hn] at ey; exact n1 (fr.bcS y c C ey).1
        · rw [bm2 y hn] at ey; exact o3 y C ey
  · intro c j k hk1 hk2 hc
    have hj : j ≠ id := by
      intro hj; rw [hj, m1] at hk1; rw [hj, hm, ← hk1] at hk2; simp at hk2
    have hn : ¬ nm j := by
      rintro ⟨k', hk'⟩; rw [m2 j k' hk'] at hk1; obtain rfl := Option.some.inj hk1; have := (fr.rng j _ hk').2.2 _ hk2; omega
    refine ⟨?_, rfl⟩; rw [bo2 c (fun hT => by have := hown c hT; rw [hc] at this; exact hj (Option.some.inj this)) (fun y hy e => by rw [hc] at e; obtain rfl := Option.some.inj e; exact hn hy)]; exact hc
  · intro j k' hk'; by_cases hn : nm j
    · obtain ⟨k, hk⟩ := hn; rw [m2 j k hk] at hk'; obtain rfl := Option.some.inj hk'; exact .inr (q3 j k hk)
    · by_cases hj : j = id
      · rw [hj, m1] at hk'; obtain rfl := Option.some.inj hk'; right; rw [hj]; refine ⟨hl, b, D, cs, el, css, T, by rw [bm2 id nidn]; exact h1, h2, h3, h4, ⟨by simp, h0.2⟩, fun k c hk hkn hT => ?_, fun x y c hx hy _ _ => h6 x y c hx hy (by simp) (by simp), fun k hk => ⟨(h7 k hk).1, (h7 k hk).2.1, fun _ => (h7 k hk).2.2 (by simp)⟩⟩; (have hki : k ≠ i := by simpa using hkn); have e := h5 k c hk (by simp) hT; rw [bo2 c (fun hT' => hki (h6 k i c hk hi (by simp) (by simp) hT hT')) (fun y hy e' => by rw [e] at e'; obtain rfl := Option.some.inj e'; exact nidn hy)]; exact e
      · rw [m3 j hj hn] at hk'; exact .inl ⟨hk', bm2 j hn, fun _ _ _ => rfl⟩
  · intro j c hc; by_cases hn : nm j
    · obtain ⟨k, hk⟩ := hn; rw [m2 j k hk] at hc; obtain rfl := Option.some.inj hc; exact absurd rfl (fr.rng j _ hk).2.1
    · by_cases hj : j = id
      · rw [hj, m1] at hc; cases hc
      · rw [m3 j hj hn] at hc; exact ⟨c, hc, bm2 j hn⟩

theorem SimB.handOver (h : SimB E N env mem a w β) {id id2 : Nat} {k k' k2 k2' : Blk} (hm : mem id = some k) (hm2 : mem id2 = some k2) (hne : id ≠ id2) (S : Nat → Prop) (hS : ∀ c, S c → β.own c = some id)
    (hd : k ≠ k') (he : k.ep = k'.ep ∧ k.alike k' ∧ k.isBox = false ∧ k'.isTree = true) (he2 : k2.ep = k2'.ep ∧ k2.alike k2' ∧ k2.isBox = false ∧ k2'.isTree = true)
    (hb : ∀ β' : Bind, (∀ j, β' j = β j) → (∀ c, S c → β'.own c = some id2) → (∀ c, ¬ S c → β'.own c = β.own c) →
      RepBlk (allow E w β') w β' (setm (setm mem id k') id2 k2') id k' ∧ RepBlk (allow E w β') w β' (setm (setm mem id k') id2 k2') id2 k2') :
    ∃ β' : Bind, SimB E N env (setm (setm mem id k') id2 k2') a w β' ∧ ∀ j, β' j = β j := by
  classical
  let β' : Bind := ⟨β.m, fun c => if S c then some id2 else β.own c⟩; have b0 : ∀ j, β' j = β j := fun _ => rfl; have b1 : ∀ c, S c → β'.own c = some id2 := fun c hc => if_pos hc; have b2 : ∀ c, ¬ S c → β'.own c = β.own c := fun c hc => if_neg hc; (have m1 : setm (setm mem id k') id2 k2' id = some k' := by rw [setm_ne _ _ hne, setm_same]); have m2 : setm (setm mem id k') id2 k2' id2 = some k2' := setm_same _ _ _; (have m3 : ∀ j, j ≠ id → j ≠ id2 → setm (setm mem id k') id2 k2' j = mem j := fun j h1 h2 => by rw [setm_ne _ _ h2, setm_ne _ _ h1]); obtain ⟨r1, r2⟩ := hb β' b0 b1 b2; refine ⟨β', h.evolve rfl rfl ⟨rfl, Nat.le_refl _⟩ (Nat.le_refl _) (fun _ _ _ => rfl) ?_ ?_ ?_ h.inj ?_ ?_ ?_ ?_, b0⟩
  · rintro c ⟨a1, a2, a3, a4⟩; exact ⟨⟨a1, a2, a3, by rw [b2 c (fun hc => by rw [hS c hc] at a4; cases a4)]; exact a4⟩, rfl⟩
  · intro j k0 hk0; by_cases hj : j = id
    · rw [hj, hm] at hk0; obtain rfl := Option.some.inj hk0; rw [hj]; exact ⟨_, m1, Nat.le_of_eq he.1, fun _ => ⟨he.2.1, rfl⟩⟩
    · by_cases hj2 : j = id2
      · rw [hj2, hm2] at hk0; obtain rfl := Option.some.inj hk0; rw [hj2]; exact ⟨_, m2, Nat.le_of_eq he2.1, fun _ => ⟨he2.2.1, rfl⟩⟩
      · exact ⟨k0, by rw [m3 j hj hj2]; exact hk0, Nat.le_refl _, fun _ => ⟨k0.alike_refl, rfl⟩⟩
  · intro j c C e; obtain ⟨⟨k0, hk0, hk1⟩, d2, d3⟩ := h.dom j c C e; refine ⟨?_, d2, d3⟩; by_cases hj : j = id
    · rw [hj, hm] at hk0; obtain rfl := Option.some.inj hk0; rw [hj]; exact ⟨_, m1, fun hc => by rw [he.2.2.1] at hk1; cases hk1 hc⟩
    · by_cases hj2 : j = id2
      · rw [hj2, hm2] at hk0; obtain rfl := Option.some.inj hk0; rw [hj2]; exact ⟨_, m2, fun hc => by rw [he2.2.2.1] at hk1; cases hk1 hc⟩
      · exact ⟨k0, by rw [m3 j hj hj2]; exact hk0, hk1⟩
  · intro c j e; by_cases hc : S c
    · rw [b1 c hc] at e; obtain rfl := Option.some.inj e; obtain ⟨_, o1, o2, o3⟩ := h.own c id (hS c hc); exact ⟨⟨_, m2, he2.2.2.2⟩, o1, o2, o3⟩
    · rw [b2 c hc] at e; obtain ⟨⟨k0, hk0, ht⟩, o1, o2, o3⟩ := h.own c j e; refine ⟨?_, o1, o2, o3⟩; by_cases hj : j = id
      · rw [hj]; exact ⟨_, m1, he.2.2.2⟩
      · by_cases hj2 : j = id2
        · rw [hj2]; exact ⟨_, m2, he2.2.2.2⟩
        · exact ⟨k0, by rw [m3 j hj hj2]; exact hk0, ht⟩
  · intro c j k1 hk1 hk2 hc; refine ⟨?_, rfl⟩; by_cases hcS : S c
    · have := hS c hcS
      rw [hc] at this
      obtain rfl := Option.some.inj this
      rw [m1] at hk1; rw [hm, ← hk1] at hk2; exact absurd (Option.some.inj hk2) hd
    · rw [b2 c hcS]; exact hc
  · intro j k1 hk1; by_cases hj : j = id
    · rw [hj, m1] at hk1; obtain rfl := Option.some.inj hk1; rw [hj]; exact .inr r1
    · by_cases hj2 : j = id2
      · rw [hj2, m2] at hk1; obtain rfl := Option.some.inj hk1; rw [hj2]; exact .inr r2
      · rw [m3 j hj hj2] at hk1; exact .inl ⟨hk1, rfl, fun _ _ _ => rfl⟩
  · intro j c hc; by_cases hj : j = id
    · rw [hj, m1] at hc; obtain rfl := Option.some.inj hc; cases he.2.2.2
    · by_cases hj2 : j = id2
      · rw [hj2, m2] at hc; obtain rfl := Option.some.inj hc; cases he2.2.2.2
      · rw [m3 j hj hj2] at hc; exact ⟨c, hc, rfl⟩

theorem elPair_some {ps : List (Nat × SV)} {id i j : Nat} {cs ds : List Value} (he : elPair ps = some (id, i, cs, j, ds)) : ps = [(0, .el id i cs), (1, .el id j ds)] := by
  unfold elPair at he; split at he
  · split at he
    · rename_i e; subst e; simp only [Option.some.injEq, Prod.mk.injEq] at he; obtain ⟨rfl, rfl, rfl, rfl, rfl⟩ := he; rfl
    · cases he
  · cases he

theorem elPair_sound (h : SimB E N env mem a w β) {l : List (Nat × Operand)} {ob : List Prop} {id i j : Nat} {cs ds : List Value} (hp : partsOf env l = ([(0, .el id i cs), (1, .el id j ds)], ob)) (hob : ∀ p ∈ ob, p) :
    (l.map fun p => (p.1, a.eval p.2)) = [(0, .agg cs.toArray), (1, .agg ds.toArray)] := by
  have el : ∀ {x : Operand} {p : List Prop} {i : Nat} {cs : List Value}, opv env x = (.el id i cs, p) → (∀ q ∈ p, q) → a.eval x = .agg cs.toArray := by
    intro x p i cs hx hq; have := opv_rep h hx hq
    generalize a.eval x = v at this
    cases this
    rfl
  match l, hp with
  | [], hp => simp [partsOf] at hp
  | [(a1, x)], hp => simp [partsOf] at hp
  | [(a1, x), (a2, y)], hp =>
    simp only [partsOf, Prod.mk.injEq, List.cons.injEq, and_true] at hp; obtain ⟨⟨⟨rfl, h1⟩, rfl, h2⟩, rfl⟩ := hp; have e1 := el (x := x) (p := (opv env x).2) (i := i) (cs := cs) (by rw [← h1]) (fun q hq => hob q (by simp [hq])); have e2 := el (x := y) (p := (opv env y).2) (i := j) (cs := ds) (by rw [← h2]) (fun q hq => hob q (by simp [hq])); simp [e1, e2]
  | (a1, x) :: (a2, y) :: (a3, z) :: r, hp => simp [partsOf] at hp

theorem takePair_gives (h : SimB E N env mem a w β) (hty : CtxTy P C) {T d len : Nat} {t : Ty} (hT : C.ty T = some (.slice t)) {parts : Array (Nat × Operand)} {ob : List Prop} {id i j : Nat} {cs ds : List Value} {r : Res}
    (hp : partsOf env parts.toList = ([(0, .el id i cs), (1, .el id j ds)], ob)) (hs : (takePair t d len ob id i cs j ds).eval mem = some r) (hob : ∀ p ∈ r.ob, p) :
    Gives P E N env (updm mem r.memw) a (Instr.buildSlice T len (parts.map fun p => (p.1, a.eval p.2))) w r.val := by
  unfold takePair at hs; replace hs := Rd.mem_some hs; split at hs
  case h_2 => simp [Rd.eval] at hs
  rename_i ep' u xs0 f hm; split at hs
  case isFalse => simp [Rd.eval] at hs
  rename_i hc; obtain ⟨rfl, hne⟩ := hc; split at hs
  case h_2 => simp [Rd.eval] at hs
  rename_i xs hz; obtain ⟨e0, rfl⟩ := TV.to_some hz; (obtain rfl : u = t := by injection e0); obtain ⟨ep, hep, hs⟩ := Rd.bind_some hs; simp only [Rd.eval, Option.some.injEq] at hs; subst hs; have h1 := elPair_sound h hp (fun p hp => hob p (by simp [hp])); obtain ⟨hi, hj, hij⟩ := hob (i < xs0.length ∧ j < xs0.length ∧ i ≠ j) (by simp); obtain ⟨hfi, hfj⟩ := hob (f i = cs ∧ f j = ds) (by simp); obtain ⟨hl, b, D, cs0, el, css, T', k1, k2, k3, k4, k0, k5, k6, k7⟩ := h.blk id _ hm; have hci : css i = cs := (k0.1 f rfl i hi).trans hfi; have hcj : css j = ds := (k0.1 f rfl j hj).trans hfj; obtain ⟨i1, i2, i3⟩ := k7 i hi; obtain ⟨j1, j2, j3⟩ := k7 j hj; rw [hci] at i1 i2 i3; rw [hcj] at j1 j2 j3; obtain ⟨e, hu, he⟩ := (hty T _ hT).und; have hte := hty e u he; obtain ⟨ti, z, hti, hisz, hi4, _, hzz, hzr⟩ := hte.info; have hpos := u.size_pos; have hzv : ∀ w, (zeroValue e).run P w = .ok z w := fun w => by simp [zeroValue, typeInfo, hti, hzz]
  have hsmall : ¬ (2 * u.size > 2 ^ 24) := by
    (have : u.size ≤ 4096 := by omega); omega
  have hvs : ∀ v ∈ [Value.agg cs.toArray, .agg ds.toArray], v.cells.size = u.size := by
    intro v hv; simp only [List.mem_cons, List.not_mem_nil, or_false] at hv; rcases hv with rfl | rfl
    · simpa [Value.cells] using i1
    · simpa [Value.cells] using j1
  have hfill : ∀ zs : Array Value, Instr.fill (fun i => some (i * u.size, u.size)) ((Array.range (2 * u.size)).map (zs[· % zs.size]!)) (parts.map fun p => (p.1, a.eval p.2)).toList = some (cs ++ ds).toArray := by
    intro zs; rw [Array.toList_map, h1]; have := Great.fill_whole hpos [Value.agg cs.toArray, .agg ds.toArray] ((Array.range (2 * u.size)).map (zs[· % zs.size]!)) hvs (by simp)
    simpa [Value.cells] using this
  have hrun : (Instr.buildSlice T 2 (parts.map fun p => (p.1, a.eval p.2))).run P w = .ok (.slice (some ⟨w.heap.size, 0, none⟩) 2 2) (w.alloc (.cells (cs ++ ds).toArray e)) := by
    (have h0 : ¬ (2 * u.size = 0) := by omega); simp only [Instr.buildSlice, Sem.run_bind, run_underlying hu, Result.andThen_ok, hte.size, hsmall, if_false, Sem.run_pure]; simp only [h0, if_false, Sem.run_bind, hzv, Result.andThen_ok, Sem.run_pure]; simp only [hfill, Sem.run_bind, run_newRow, Result.andThen_ok, Sem.run_pure]
  have hflen : (cs ++ ds).length = 2 * u.size := by rw [List.length_append, i1, j1]; omega
  have hget : ∀ b, b < w.heap.size → (w.alloc (.cells (cs ++ ds).toArray e)).heap[b]? = w.heap[b]? := fun b hb => by
    show (w.heap.push _)[b]? = _; rw [Array.getElem?_push, if_neg (by omega)]
  have hnew : (w.alloc (.cells (cs ++ ds).toArray e)).heap[w.heap.size]? = some (.cells (cs ++ ds).toArray e (0, 0)) := by show (w.heap.push _)[w.heap.size]? = _; simp
  have hcells : ∀ k, k < 2 → (if k = 0 then cs else ds).length = u.size ∧ ∀ (q : Nat) (v : Value), (if k = 0 then cs else ds)[q]? = some v → (cs ++ ds).toArray[k * u.size + q]? = some v := by
    intro k hk
    match k, hk with
    | 0, _ =>
      simp only [↓reduceIte]; refine ⟨i1, fun q v hq => ?_⟩; have : q < cs.length := (List.getElem?_eq_some_iff.1 hq).1; simp only [List.getElem?_toArray]; rw [List.getElem?_append_left (by omega), show 0 * u.size + q = q by omega]; exact hq
    | 1, _ =>
      simp only [Nat.one_ne_zero, if_false]; refine ⟨j1, fun q v hq => ?_⟩; simp only [List.getElem?_toArray]; rw [List.getElem?_append_right (by omega), show 1 * u.size + q - cs.length = q by omega]; exact hq
  have ha := h.alloc (k := .hole ep u [xs0.getD i u.zero, xs0.getD j u.zero] [0, 1] none) (cs ++ ds).toArray e 2 (freshEp_some hep) (fun w' β' mem' hA hm' hb hh =>
    ⟨by simp, w.heap.size, 2, _, e, fun k => if k = 0 then cs else ds, fun _ _ => False, hb, hh, by simpa using hflen, by simp, ⟨by simp, fun k v hk hv => by
      dsimp only at hv; by_cases hk0 : k = 0
      · rw [if_pos hk0] at hv; exact (i3 (by simp)).one v hv
      · rw [if_neg hk0] at hv; exact (j3 (by simp)).one v hv⟩, by simp, by simp, fun k hk => by
      (have hk2 : k < 2 := by simpa using hk); refine ⟨(hcells k hk2).1, (hcells k hk2).2, fun hn => ?_⟩
      match k, hk2, hn with
      | 0, _, hn => simp at hn
      | 1, _, hn => simp at hn⟩)
  generalize hw' : w.alloc (.cells (cs ++ ds).toArray e) = w' at ha hrun hget hnew; have hm1 : (setm mem (d * 4) (.hole ep u [xs0.getD i u.zero, xs0.getD j u.zero] [0, 1] none)) id = some (.hole ep' u xs0 [] (some f)) := by rw [setm_ne _ _ hne]; exact hm
  have hb1 : ∀ c, β.own c = some id → (β.set (d * 4) (some (w.heap.size, 2))).own c = some id := fun c hc => by
    rw [Bind.set_own, hc, if_neg (fun e => hne (Option.some.inj e))]
  obtain ⟨β', hS', hβ'⟩ := ha.handOver (id := id) (id2 := d * 4) (k' := .hole ep' u xs0 [i, j] none) (k2' := .tree ep u [xs0.getD i u.zero, xs0.getD j u.zero]) hm1 (setm_same _ _ _) hne
    (fun c => T' i c ∨ T' j c) (fun c hc => hb1 c (hc.elim (fun hc => k5 i c hi (by simp) hc) (fun hc => k5 j c hj (by simp) hc))) (by simp) ⟨rfl, ⟨rfl, rfl⟩, rfl, rfl⟩ ⟨rfl, ⟨rfl, rfl⟩, rfl, rfl⟩
    (fun β' b0 b1 b2 => by
      refine ⟨⟨hl, b, D, cs0, el, css, T', by rw [b0, Bind.set_ne _ _ hne]; exact k1, (hget b (h.dom id b D k1).2.1).trans k2, k3, k4, ⟨by simp, k0.2⟩, fun k c hk hn hT => ?_, fun x y c hx hy _ _ => k6 x y c hx hy (by simp) (by simp), fun k hk => ⟨(k7 k hk).1, (k7 k hk).2.1, fun _ => ((k7 k hk).2.2 (by simp)).mono fun c hc => ⟨hc, hget c (h.own c id (k5 k c hk (by simp) hc)).2.1⟩⟩⟩,
        by simp, .inr ⟨w.heap.size, 2, _, e, fun k => if k = 0 then cs else ds, fun k => if k = 0 then T' i else T' j, by rw [b0, Bind.set_same], hnew, by simpa using hflen, by simp, fun k c hk hc => b1 c ?_, fun x y c hx hy hcx hcy => ?_, fun k hk => ?_⟩⟩
      · (have hki : k ≠ i ∧ k ≠ j := by simpa using hn); have ek := k5 k c hk (by simp) hT; rw [b2 c (fun hc => hc.elim (fun hc => hki.1 (k6 k i c hk hi (by simp) (by simp) hT hc)) (fun hc => hki.2 (k6 k j c hk hj (by simp) (by simp) hT hc)))]; exact hb1 c ek
      · by_cases hk0 : k = 0
        · simp only [if_pos hk0] at hc; exact .inl hc
        · simp only [if_neg hk0] at hc; exact .inr hc
      · (have hx2 : x < 2 := by simpa using hx); (have hy2 : y < 2 := by simpa using hy); by_cases hx0 : x = 0 <;> by_cases hy0 : y = 0
        · omega
        · simp only [if_pos hx0] at hcx; simp only [if_neg hy0] at hcy; exact absurd (k6 i j c hi hj (by simp) (by simp) hcx hcy) hij
        · simp only [if_neg hx0] at hcx; simp only [if_pos hy0] at hcy; exact absurd (k6 i j c hi hj (by simp) (by simp) hcy hcx) hij
        · omega
      · (have hk2 : k < 2 := by simpa using hk); refine ⟨(hcells k hk2).1, (hcells k hk2).2, ?_⟩
        match k, hk2 with
        | 0, _ =>
          simp only [↓reduceIte, List.getElem_cons_zero]; rw [show xs0.getD i u.zero = xs0[i] by simp [hi]]; exact (i3 (by simp)).mono fun c hc => ⟨hc, hget c (h.own c id (k5 i c hi (by simp) hc)).2.1⟩
        | 1, _ =>
          simp only [Nat.one_ne_zero, if_false, List.getElem_cons_succ, List.getElem_cons_zero]; rw [show xs0.getD j u.zero = xs0[j] by simp [hj]]
          exact (j3 (by simp)).mono fun c hc => ⟨hc, hget c (h.own c id (k5 j c hj (by simp) hc)).2.1⟩)
  have hmem : setm (setm (setm mem (d * 4) (.hole ep u [xs0.getD i u.zero, xs0.getD j u.zero] [0, 1] none)) id (.hole ep' u xs0 [i, j] none)) (d * 4) (.tree ep u [xs0.getD i u.zero, xs0.getD j u.zero]) =
      updm mem [(id, .hole ep' u xs0 [i, j] none), (d * 4, .tree ep u [xs0.getD i u.zero, xs0.getD j u.zero])] := by
    rw [updm_cons, updm_one]; funext q; by_cases hq : q = d * 4
    · rw [hq, setm_same, setm_same]
    · rw [setm_ne _ _ hq, setm_ne _ _ hq]; by_cases hq2 : q = id
      · rw [hq2, setm_same, setm_same]
      · rw [setm_ne _ _ hq2, setm_ne _ _ hq2, setm_ne _ _ hq]
  rw [hmem] at hS'; refine ⟨_, w', β', hrun, hS', ?_⟩; refine .tr _ _ _ ⟨_, by rw [← hmem]; exact setm_same _ _ _, Nat.le_refl _⟩ rfl fun u' zs hz => ?_; rw [← hmem, setm_same] at hz; have hz := hz.at; simp only [Option.some.injEq, Blk.tree.injEq, true_and] at hz; obtain ⟨rfl, hz⟩ := hz; obtain rfl := eq_of_heq hz; rw [hβ', Bind.set_same]; exact ⟨⟨w.heap.size, 0, none⟩, rfl, by simp, fun _ => by simp⟩

theorem loadRes_ob {d : Nat} {t : Ty} {sv : SV} {ps : List Prop} {r : Res} (hs : (loadRes t d ps sv).eval mem = some r) : r.ob = ps := by
  have plain : ((loadSV t sv).bind fun x => x.force fun x => .ret ({ val := x, ob := ps } : Res)).eval mem = some r → r.ob = ps := by
    intro hs; obtain ⟨y, hy, hs⟩ := Rd.bind_some hs; cases y <;> (simp only [SV.force, Rd.eval, Option.some.injEq] at hs; rw [← hs])
  unfold loadRes at hs; split at hs
  · replace hs := Rd.mem_some hs; split at hs
    · split at hs
      case isFalse => simp [Rd.eval] at hs
      obtain ⟨⟨svs, ms⟩, hd, hs⟩ := Rd.bind_some hs; simp only at hs; split at hs
      · simp [Rd.eval] at hs
      simp only [Rd.eval, Option.some.injEq] at hs; rw [← hs]
    · exact plain hs
  · exact plain hs

theorem loadRes_gives (h : SimB E N env mem a w β) {T d : Nat} {t : Ty} (ht : ∀ {b off : Nat} {cs : List Value}, cs.length = t.size → (∀ (j : Nat) (v : Value), cs[j]? = some v → w.cell? ⟨b, off + j, none⟩ = some v) → (loadVar T ⟨b, off, none⟩).run P w = .ok (valOf t cs) w)
    {sv : SV} {x : Value} {ps : List Prop} {r : Res} (hx : RepSV (allow E w β) w β mem sv x) (hs : (loadRes t d ps sv).eval mem = some r) :
    Gives P E N env (updm mem r.memw) a (Instr.loadAt T x) w r.val := by
  have plain : ((loadSV t sv).bind fun x => x.force fun x => .ret ({ val := x, ob := ps } : Res)).eval mem = some r → Gives P E N env (updm mem r.memw) a (Instr.loadAt T x) w r.val := by
    intro hs; obtain ⟨y, hy, hs⟩ := Rd.bind_some hs
    have : r = { val := y, ob := ps } := by
      cases y <;> (simp only [SV.force, Rd.eval, Option.some.injEq] at hs; exact hs.symm)
    subst this
    obtain ⟨v, hv, hr⟩ := load_sound h ht hx hy; exact ⟨v, w, β, hv, h, hr⟩
  unfold loadRes at hs; split at hs
  · rename_i id ep i; replace hs := Rd.mem_some hs; split at hs
    · rename_i ep' u xs hm; split at hs
      case isFalse => simp [Rd.eval] at hs
      rename_i hc; obtain ⟨rfl, rfl, hn⟩ := hc; obtain ⟨⟨svs, ms⟩, hd, hs⟩ := Rd.bind_some hs; simp only at hs; split at hs
      · simp [Rd.eval] at hs
      rename_i hany; simp only [Rd.eval, Option.some.injEq] at hs; subst hs
      cases hx with
      | tref _ _ _ _ b o hm2 hv =>
        obtain ⟨hlt, D, q, u', hb, hpo, rfl⟩ := hv u xs (.ofH hm); simp only [pathOff, Option.some.injEq, Prod.mk.injEq] at hpo; obtain ⟨rfl, rfl⟩ := hpo; rw [show xs.getD i u.zero = xs[i] by simp [hlt]] at hd
        obtain ⟨β', b', D', cs, el, css, hS, hb', hh, hcl, hcc, hr⟩ := h.takeOut hm hlt hd (by
          intro m hmm e; refine hany (List.any_eq_true.2 ⟨m, hmm, ?_⟩); rw [e]
          exact Nat.beq_refl _)
        rw [hb] at hb'; (obtain ⟨rfl, rfl⟩ : b = b' ∧ D = D' := by simpa using hb'); refine ⟨valOf u css, w, β', ?_, hS, ?_⟩
        · simp only [Instr.loadAt, Instr.sureAddr, Sem.run_bind, Sem.run_pure, Result.andThen_ok]; refine ht hcl fun j v hj => ?_; have := hcc _ _ hj; simp [World.cell?, hh]
          exact this
        · simp only [valOf, hn, if_true]; exact hr
    · exact plain hs
  · exact plain hs

end
end Go.Am
