/-
  A part of the proof of this claim (AwTE): what functions of the program compute, and plain facts of that. No conditions.
-/
import Derived.Test.YtjcjpeckfikfkaaAyL
import Derived.Test.YtjcjpeckfikfkaaAwJ
import Derived.Test.YtjcjpeckfikfkaaAwTD
import Derived.Test.YtjcjpeckfikfkaaAwT6
import Derived.Test.YtjcjpeckfikfkaaAnL
set_option linter.all false
namespace Go.Proofs.Ytjcjpeckfikfkaa
open Go Go.Am
open List (length getD)
noncomputable section

def nullAt (t : Tab) (col : Int) (i : Nat) : Bool := Val.Null (getD (getD (Tab.Rows t) i []) (Int.toNat col) Val.zero)

def nums (t : Tab) (col : Int) : Nat → Nat → List Int
 | 0, _ => []
 | f + 1, i => bif nullAt t col i then nums t col f (i + 1) else (i : Int) :: nums t col f (i + 1)

theorem iIndexOf_l0_eq (t : Tab) (col : Int) : ∀ (k i : Nat) (l : List Int), t.Rows.length - i < k → iIndexOf_l0 t col k i l = l ++ nums t col (t.Rows.length - i) i := by
 intro k
 induction k with
 | zero => intro i l h; omega
 | succ k ih =>
  intro i l h; unfold iIndexOf_l0; by_cases hlt : i < t.Rows.length
  ·
   rw [decide_eq_true (by omega : (i : Int) < (length (Tab.Rows t) : Int)), cond_true, show t.Rows.length - i = (t.Rows.length - (i + 1)) + 1 by omega]; show (bif !(nullAt t col i) then _ else _) = l ++ (bif nullAt t col i then _ else _)
   cases nullAt t col i with
   | true => exact ih (i + 1) l (by omega)
   | false =>
    rw [Bool.not_false, cond_true, cond_false, ih _ _ (by omega), List.append_assoc]; rfl
  · rw [decide_eq_false (by omega), cond_false, show t.Rows.length - i = 0 by omega]; exact (List.append_nil _).symm

theorem iIndexOf_yes {t : Tab} {col : Int} (h : hasColumn t col = true) : iIndexOf t col = idxSort t col (nums t col t.Rows.length 0) := by
 unfold iIndexOf; rw [h, Bool.not_true, cond_false]; show idxSort t col (iIndexOf_l0 t col (t.Rows.length - 0 + 1) 0 []) = _; rw [iIndexOf_l0_eq t col _ _ _ (by omega), List.nil_append, Nat.sub_zero]

end
end Go.Proofs.Ytjcjpeckfikfkaa


namespace Go.Proofs.Ytjcjpeckfikfkaa
open Go Go.Am
open List (length getD take drop)
noncomputable section

/-! ### The reference's list -/

theorem inner_spec (t : Tab) (col : Int) (i : Nat) (out : List Int) : ∀ (f : Nat) (k2 : Int), 0 ≤ k2 → k2 ≤ out.length → k2 < f →
  ∃ r : Nat, sIndexOf_l1 t col i out f k2 = (r : Int) ∧ (r : Int) ≤ k2 ∧ (∀ j : Nat, r ≤ j → (j : Int) < k2 → idxKey t col i < idxKey t col (out.getD j 0)) ∧ (r = 0 ∨ idxKey t col (out.getD (r - 1) 0) ≤ idxKey t col i) := by
 intro f
 induction f with
 | zero => intro k2 h0 _ h; omega
 | succ f ih =>
  intro k2 h0 hl h; obtain ⟨n, rfl⟩ := Int.eq_ofNat_of_zero_le h0; unfold sIndexOf_l1; by_cases hp : 0 < (n : Int)
  ·
   rw [decide_eq_true hp, cond_true, show Int.toNat ((n : Int) - 1) = n - 1 by omega]
   have e : decide ((Val.N (getD (getD (Tab.Rows t) i []) (Int.toNat col) Val.zero)) < (Val.N (getD (getD (Tab.Rows t) (Int.toNat (getD out (n - 1) 0)) []) (Int.toNat col) Val.zero))) = decide (idxKey t col i < idxKey t col (out.getD (n - 1) 0)) := by
    unfold idxKey; rw [Int.toNat_natCast]
   rw [e]; by_cases hk : idxKey t col i < idxKey t col (out.getD (n - 1) 0)
   ·
    rw [decide_eq_true hk, cond_true]; obtain ⟨r, h1, h2, h3, h4⟩ := ih ((n : Int) - 1) (by omega) (by omega) (by omega); refine ⟨r, h1, by omega, fun j hj1 hj2 => ?_, h4⟩; by_cases hjn : j = n - 1
    · subst hjn; exact hk
    · exact h3 j hj1 (by omega)
   · rw [decide_eq_false hk, cond_false]; exact ⟨n, rfl, Int.le_refl _, fun j h1 h2 => by omega, .inr (by omega)⟩
  · rw [decide_eq_false hp, cond_false, cond_false]; exact ⟨n, rfl, Int.le_refl _, fun j h1 h2 => by omega, .inl (by omega)⟩

def Asc (t : Tab) (col : Int) (l : List Int) : Prop := l.Pairwise fun i j => idxLt t col j i = false

theorem getD_at {l : List Int} {j : Nat} (h : j < l.length) : l.getD j 0 = l[j] := getD_int h

theorem ins_asc {t : Tab} {col : Int} {out : List Int} {i r : Nat} (ha : Asc t col out) (hb : ∀ x ∈ out, 0 ≤ x ∧ x < (i : Int)) (hr : r ≤ out.length) (h1 : ∀ j : Nat, r ≤ j → (j : Int) < out.length → idxKey t col i < idxKey t col (out.getD j 0))
  (h2 : r = 0 ∨ idxKey t col (out.getD (r - 1) 0) ≤ idxKey t col i) : Asc t col ((out.take r ++ [(i : Int)]) ++ out.drop r) := by
 (have hsplit : (out.take r ++ out.drop r).Pairwise fun i j => idxLt t col j i = false := by rw [List.take_append_drop]; exact ha); obtain ⟨p1, p2, p3⟩ := List.pairwise_append.1 hsplit
 have hlo : ∀ a ∈ out.take r, idxLt t col i a = false := by
  intro a ham; have hai := hb a (List.mem_of_mem_take ham); obtain ⟨j, hj, rfl⟩ := List.mem_iff_getElem.1 ham; rw [List.length_take] at hj; rw [List.getElem_take] at hai ⊢; rcases h2 with h2 | h2
  · omega
  ·
   rw [getD_at (by omega)] at h2; rw [idxLt_no]; by_cases hjr : j = r - 1
   · subst hjr; omega
   ·
    have := List.pairwise_iff_getElem.1 ha j (r - 1) (by omega) (by omega) (by omega)
    rw [idxLt_no] at this
    omega
 have hhi : ∀ b ∈ out.drop r, idxLt t col b i = false := by
  intro b hbm; obtain ⟨j, hj, rfl⟩ := List.mem_iff_getElem.1 hbm; rw [List.length_drop] at hj; rw [List.getElem_drop]; have := h1 (r + j) (by omega) (by omega)
  rw [getD_at (by omega)] at this
  rw [idxLt_no]; omega
 refine List.pairwise_append.2 ⟨List.pairwise_append.2 ⟨p1, List.pairwise_singleton _ _, fun a ham b hbm => ?_⟩, p2, fun a ham b hbm => ?_⟩
 · rw [List.mem_singleton.1 hbm]; exact hlo a ham
 ·
  rcases List.mem_append.1 ham with h | h
  · exact p3 a h b hbm
  · rw [List.mem_singleton.1 h]; exact hhi b hbm

theorem sIndexOf_l0_spec (t : Tab) (col : Int) : ∀ (k i : Nat) (out : List Int), t.Rows.length - i < k → Asc t col out → (∀ x ∈ out, 0 ≤ x ∧ x < (i : Int)) →
  Asc t col (sIndexOf_l0 t col k i out) ∧ (sIndexOf_l0 t col k i out).Perm (out ++ nums t col (t.Rows.length - i) i) := by
 intro k
 induction k with
 | zero => intro i out h; omega
 | succ k ih =>
  intro i out h ha hb; unfold sIndexOf_l0; by_cases hlt : i < t.Rows.length
  ·
   rw [decide_eq_true (by omega : (i : Int) < (length (Tab.Rows t) : Int)), cond_true, show t.Rows.length - i = (t.Rows.length - (i + 1)) + 1 by omega]; have en : nums t col ((t.Rows.length - (i + 1)) + 1) i = bif nullAt t col i then nums t col (t.Rows.length - (i + 1)) (i + 1) else (i : Int) :: nums t col (t.Rows.length - (i + 1)) (i + 1) := rfl; rw [en, show Val.Null (getD (getD (Tab.Rows t) i []) (Int.toNat col) Val.zero) = nullAt t col i from rfl]
   cases nullAt t col i with
   | true =>
    rw [cond_true, cond_true]; exact ih (i + 1) out (by omega) ha fun x hx => by have := hb x hx; omega
   | false =>
    rw [cond_false, cond_false]; obtain ⟨r, q1, q2, q3, q4⟩ := inner_spec t col i out (Int.toNat (length out : Int) + 1) (length out : Int) (by omega) (Int.le_refl _) (by omega); unfold andThen; simp only; rw [q1, Int.toNat_natCast, List.nil_append, List.drop_zero, show take (length out - r) (drop r out) = out.drop r from List.take_of_length_le (by rw [List.length_drop]; omega)]
    have hp : ((out.take r ++ [(i : Int)]) ++ out.drop r).Perm (out ++ [(i : Int)]) := by
     (have e1 : (out ++ [(i : Int)]).Perm ((out.take r ++ out.drop r) ++ [(i : Int)]) := by rw [List.take_append_drop]); refine List.Perm.trans ?_ e1.symm; rw [List.append_assoc, List.append_assoc]; exact List.Perm.append_left _ List.perm_append_comm
    obtain ⟨s1, s2⟩ := ih (i + 1) _ (by omega) (ins_asc ha hb (by omega) (fun j hj1 hj2 => q3 j hj1 hj2) q4) fun x hx => by
     rcases List.mem_append.1 (hp.mem_iff.1 hx) with hx | hx
     · have := hb x hx; omega
     · rw [List.mem_singleton.1 hx]; omega
    refine ⟨s1, s2.trans ?_⟩; have := hp.append_right (nums t col (t.Rows.length - (i + 1)) (i + 1))
    rw [List.append_assoc out] at this
    exact this
  · rw [decide_eq_false (by omega), cond_false, show t.Rows.length - i = 0 by omega]; exact ⟨ha, by rw [show nums t col 0 i = [] from rfl, List.append_nil]⟩

theorem hasColumn_same (t : Tab) (col : Int) : (bif (!(validTable t)) then true else (!(inRange col 0 ((Tab.Width t) - 1)))) = !(hasColumn t col) := by
 cases hc : hasColumn t col with
 | true =>
  have h := hasColumn_iff.1 hc; rw [validTable_iff.2 h.1, inRange_iff.2 ⟨h.2.1, by have := h.2.2; omega⟩]; rfl
 | false =>
  cases e : (bif (!(validTable t)) then true else (!(inRange col 0 ((Tab.Width t) - 1)))) with
  | true => rfl
  | false =>
   have e1 := or_neg e; have e2 := inRange_iff.1 (not_neg e1.2); have : hasColumn t col = true := hasColumn_iff.2 ⟨validTable_iff.1 (not_neg e1.1), e2.1, by omega⟩
   rw [hc] at this
   cases this

theorem indexOf_same (t : Tab) (col : Int) : sIndexOf t col = iIndexOf t col := by
 unfold sIndexOf; rw [hasColumn_same]
 cases hc : hasColumn t col with
 | false =>
  unfold iIndexOf; rw [hc]; rfl
 | true =>
  rw [iIndexOf_yes hc, Bool.not_true, cond_false]; obtain ⟨s1, s2⟩ := sIndexOf_l0_spec t col (t.Rows.length - 0 + 1) 0 [] (by omega) List.Pairwise.nil (fun x hx => by cases hx); rw [List.nil_append, Nat.sub_zero] at s2; exact idxSort_eq s2 s1

end
end Go.Proofs.Ytjcjpeckfikfkaa


namespace Go.Proofs.Ytjcjpeckfikfkaa
open Go Go.Am
open List (getD)
noncomputable section

theorem eqIntS_self (a : List Int) : eqIntS a a = true := by
 unfold eqIntS; simp only [bne_self_eq_false, cond_false]; rcases all_loop (eqIntS_l0 a a) a.length (fun i => (getD a i 0) != (getD a i 0)) (fun k i => rfl) (a.length - 0 + 1) 0 (by omega) with ⟨h1, _⟩ | ⟨_, j, _, _, h⟩
 · rw [h1]; rfl
 · simp at h

theorem FnExactIndexOf_law (t : Tab) (col : Int) : FnExactIndexOf t col = true := by
 unfold FnExactIndexOf; by_cases hz : szTable t 1048576 < 0
 · rw [decide_eq_true hz]; rfl
 ·
  have hm := (toTable_fit (szTable_fit hz)).1; rw [decide_eq_false hz, indexOf_same, eqIntS_self, eqTable_refl, decide_eq_false hm]; generalize iIndexOf (toTable t) col = l; simp only [Bool.not_true, cond_false, andThen]; obtain ⟨h1, h2, h3, h4⟩ := mark_loop FnExactIndexOf_l0 (fun k c i a => rfl) (l.length - 0 + 1) 1 0 l (by omega) (Nat.zero_le _); generalize FnExactIndexOf_l0 (l.length - 0 + 1) 1 0 l = m at *; obtain ⟨c, b⟩ := m; simp only at h1 h2 h3 h4
  have hh : heldIntS b 1 = (c : Int) := by
   unfold heldIntS; rw [held_loop b (heldIntS_l0 b) (fun k c i => rfl) _ _ _ (by omega) (Nat.zero_le _) fun j _ hj => by rw [h4 j (Nat.zero_le _) (by omega)]; omega]; simp only [Sum.elim_inl]; omega
  simp only [hh]; simp

end
end Go.Proofs.Ytjcjpeckfikfkaa
