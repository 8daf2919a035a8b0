/-
  A part of the proof of this claim (AwV): what functions of the program compute, and plain facts of that. No conditions.
-/
import Derived.Test.YtjcjpeckfikfkaaAwQ
set_option linter.all false
namespace Go.Proofs.Ytjcjpeckfikfkaa
open Go Go.Am
open List (length getD)
noncomputable section

/-! ### Rows, each once -/

theorem collectD_l0_eq (width : Int) : ∀ (l ar : List (List Val)), ar.length + l.length ≤ 400 → collectD_l0 width l ar = .inl (ar ++ l) := by
 intro l
 induction l with
 | nil => intro ar h; simp [collectD_l0]
 | cons r l ih =>
  intro ar h; simp only [List.length_cons] at h; unfold collectD_l0; rw [beq_eq_false_iff_ne.2 (by omega), cond_false, icopied_eq, ih _ (by simp only [List.length_append, List.length_cons, List.length_nil]; omega)]; simp

theorem diffP_sublist {α : Type} {same : α → α → Bool} : ∀ (l : List α) (p : Option α), (diffP same p l).Sublist l := by
 intro l
 induction l with
 | nil => intro p; exact List.Sublist.slnil
 | cons y l ih =>
  intro p; simp only [diffP]
  cases likeP same p y with
  | true => rw [cond_true]; exact (ih _).cons _
  | false => rw [cond_false]; exact (ih _).cons_cons _

theorem diffRows_sublist (rows : List (List Val)) : (diffRows rows).Sublist rows := diffP_sublist _ _

theorem srt_self {wd : Nat} {rows : List (List Val)} (h : RowsW wd rows) (hs : RSorted rows) : srtRows rows = rows := (srtRows_eq h (List.Perm.refl _) hs).symm

theorem collectD_eq {wd : Nat} (width : Int) {rows : List (List Val)} (h : RowsW wd rows) (hs : RSorted rows) (hn : rows.length ≤ 400) : collectD width rows = ⟨width, diffRows rows⟩ := by
 have hd := (diffRows_sublist rows).length_le; unfold collectD; rw [collectD_l0_eq _ _ _ (by simp only [List.length_nil]; omega), Sum.elim_inl, List.nil_append]; show (⟨width, srtRows (diffRows rows)⟩ : Tab) = _; rw [srt_self (h.sub fun r hr => (diffRows_sublist rows).mem hr) (List.Pairwise.sublist (diffRows_sublist rows) hs)]

theorem iDistinctRows_yes {t : Tab} (h : VT t) : iDistinctRows t = (⟨t.Width, diffRows t.Rows⟩, true) := by
 unfold iDistinctRows; rw [ValidTable_iff.2 h, Bool.not_true, cond_false, show differentRowsF t.Rows = t.Rows from rfl, collectD_eq t.Width h.rowsW h.rsorted h.n4]

theorem diffP_strict {wd : Nat} : ∀ (l : List (List Val)) (p : Option (List Val)), RowsW wd l → RSorted l → (∀ q, p = some q → (VR q ∧ q.length = wd) ∧ ∀ x ∈ l, rlt x q = false) →
  (diffP (fun x y => icompareRows x y == 0) p l).Pairwise (fun x y => rlt x y = true) ∧ ∀ q, p = some q → ∀ x ∈ diffP (fun x y => icompareRows x y == 0) p l, rlt q x = true := by
 intro l
 induction l with
 | nil => intro p _ _ _; exact ⟨List.Pairwise.nil, fun q _ x hx => by cases hx⟩
 | cons y l ih =>
  intro p hw hs hp; have hy := hw y List.mem_cons_self; obtain ⟨s1, s2⟩ := List.pairwise_cons.1 hs
  have ih' := ih (some y) (hw.sub fun r hr => List.mem_cons_of_mem _ hr) s2 (fun q e => by
   obtain rfl := Option.some.inj e
   exact ⟨hy, s1⟩)
  have strict : ∀ {a b : List Val}, (VR a ∧ a.length = wd) → (VR b ∧ b.length = wd) → rlt b a = false → icompareRows a b ≠ 0 → rlt a b = true := by
   intro a b ha hb h1 h2; have h3 : a ≠ b := fun e => h2 ((cmp_zero ha hb).2 e); simp only [rlt, decide_eq_false_iff_not, decide_eq_true_eq] at *; have e := lexI_neg (rkey a) (rkey b); rcases Int.lt_trichotomy (lexI (rkey a) (rkey b)) 0 with q | q | q
   · exact q
   · exact absurd (rkey_inj ha.1.mem hb.1.mem (lexI_zero q)) h3
   · omega
  simp only [diffP]
  cases p with
  | none =>
   simp only [likeP, cond_false]; exact ⟨List.pairwise_cons.2 ⟨fun x hx => ih'.2 y rfl x hx, ih'.1⟩, fun q e => by cases e⟩
  | some q =>
   obtain ⟨hq, hql⟩ := hp q rfl; simp only [likeP]
   cases e : (icompareRows q y == 0) with
   | true =>
    simp only [cond_true]; obtain rfl := (cmp_zero hq hy).1 (eq_of_beq e); exact ⟨ih'.1, fun q' e => by obtain rfl := Option.some.inj e; exact ih'.2 q rfl⟩
   | false =>
    simp only [cond_false]; have hqy := strict hq hy (hql y List.mem_cons_self) (fun h => by rw [h] at e; cases e); refine ⟨List.pairwise_cons.2 ⟨fun x hx => ih'.2 y rfl x hx, ih'.1⟩, fun q' e' x hx => ?_⟩; obtain rfl := Option.some.inj e'; rcases List.mem_cons.1 hx with rfl | hx
    · exact hqy
    ·
     have := ih'.2 y rfl x hx; simp only [rlt, decide_eq_true_eq] at *
     exact lexI_trans hqy this

theorem diffRows_strict {wd : Nat} {rows : List (List Val)} (h : RowsW wd rows) (hs : RSorted rows) : (diffRows rows).Pairwise fun x y => rlt x y = true :=
 (diffP_strict rows none h hs (fun q e => by cases e)).1

theorem diffP_cover {wd : Nat} : ∀ (l : List (List Val)) (p : Option (List Val)), RowsW wd l → (∀ q, p = some q → VR q ∧ q.length = wd) → ∀ x ∈ l, x ∈ diffP (fun x y => icompareRows x y == 0) p l ∨ p = some x := by
 intro l
 induction l with
 | nil => intro p _ _ x hx; cases hx
 | cons y l ih =>
  intro p hw hp x hx; have hy := hw y List.mem_cons_self; have ih' := ih (some y) (hw.sub fun r hr => List.mem_cons_of_mem _ hr) (fun q e => by obtain rfl := Option.some.inj e; exact hy); simp only [diffP]
  cases e : likeP (fun x y => icompareRows x y == 0) p y with
  | true =>
   rw [cond_true]
   cases p with
   | none => cases e
   | some q =>
    obtain rfl := (cmp_zero (hp q rfl) hy).1 (eq_of_beq e); rcases List.mem_cons.1 hx with rfl | hx
    · exact .inr rfl
    · exact ih' x hx
  | false =>
   rw [cond_false]; rcases List.mem_cons.1 hx with rfl | hx
   · exact .inl List.mem_cons_self
   ·
    rcases ih' x hx with h | h
    · exact .inl (List.mem_cons_of_mem _ h)
    · obtain rfl := Option.some.inj h; exact .inl List.mem_cons_self

theorem diffRows_mem {wd : Nat} {rows : List (List Val)} (h : RowsW wd rows) {x : List Val} : x ∈ diffRows rows ↔ x ∈ rows := by
 constructor
 · exact fun hx => (diffRows_sublist rows).mem hx
 ·
  intro hx; rcases diffP_cover rows none h (fun q e => by cases e) x hx with h | h
  · exact h
  · cases h

/-! ### Both tables' rows -/

end
end Go.Proofs.Ytjcjpeckfikfkaa
