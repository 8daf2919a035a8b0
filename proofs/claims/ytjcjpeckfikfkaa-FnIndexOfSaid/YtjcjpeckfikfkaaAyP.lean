/-
  A part of the proof of this claim (AyP): what functions of the program compute, and plain facts of that. No conditions.
-/
import Derived.Test.YtjcjpeckfikfkaaAyN
set_option linter.all false
namespace Go.Proofs.Ytjcjpeckfikfkaa
open Go Go.Am
noncomputable section

theorem equalInts_self (a : List Int) : equalInts a a = true := by
 unfold equalInts
 have hl : ∀ (k i : Nat), equalInts_l0 a a k i = .inl () := by
  intro k
  induction k with
  | zero => intro i; rfl
  | succ k ih =>
   intro i
   unfold equalInts_l0
   rw [bne_self_eq_false, cond_false, ih]
   cases decide (((i : Nat) : Int) < ((List.length a : Nat) : Int)) <;> rfl
 rw [hl, bne_self_eq_false, cond_false]
 rfl

/-! ### The reference's list -/

theorem inner_spec (t : Tab) (col : Int) (i : Nat) (out : List Int) : ∀ (f : Nat) (k2 : Int), 0 ≤ k2 → k2 ≤ out.length → k2 < f →
  ∃ r : Nat, sIndexOf_l1 t col i out f k2 = (r : Int) ∧ (r : Int) ≤ k2 ∧ (∀ j : Nat, r ≤ j → (j : Int) < k2 → idxKey t col i < idxKey t col (out.getD j 0)) ∧ (r = 0 ∨ idxKey t col (out.getD (r - 1) 0) ≤ idxKey t col i) := by
 intro f
 induction f with
 | zero => intro k2 h0 _ h; omega
 | succ f ih =>
  intro k2 h0 hl h
  obtain ⟨n, rfl⟩ := Int.eq_ofNat_of_zero_le h0
  unfold sIndexOf_l1
  by_cases hp : 0 < (n : Int)
  ·
   rw [decide_eq_true hp, cond_true, show Int.toNat ((n : Int) - 1) = n - 1 by omega]
   have e : decide ((Val.N (List.getD (List.getD (Tab.Rows t) i []) (Int.toNat col) Val.zero)) < (Val.N (List.getD (List.getD (Tab.Rows t) (Int.toNat (List.getD out (n - 1) 0)) []) (Int.toNat col) Val.zero))) = decide (idxKey t col i < idxKey t col (out.getD (n - 1) 0)) := by
    unfold idxKey
    rw [Int.toNat_natCast]
   rw [e]
   by_cases hk : idxKey t col i < idxKey t col (out.getD (n - 1) 0)
   ·
    rw [decide_eq_true hk, cond_true]
    obtain ⟨r, h1, h2, h3, h4⟩ := ih ((n : Int) - 1) (by omega) (by omega) (by omega)
    refine ⟨r, h1, by omega, fun j hj1 hj2 => ?_, h4⟩
    by_cases hjn : j = n - 1
    ·
     subst hjn; exact hk
    ·
     exact h3 j hj1 (by omega)
   ·
    rw [decide_eq_false hk, cond_false]
    exact ⟨n, rfl, Int.le_refl _, fun j h1 h2 => by omega, .inr (by omega)⟩
  ·
   rw [decide_eq_false hp, cond_false, cond_false]
   exact ⟨n, rfl, Int.le_refl _, fun j h1 h2 => by omega, .inl (by omega)⟩

def Asc (t : Tab) (col : Int) (l : List Int) : Prop := l.Pairwise fun i j => idxLt t col j i = false

theorem getD_at {l : List Int} {j : Nat} (h : j < l.length) : l.getD j 0 = l[j] := getD_int h

theorem ins_asc {t : Tab} {col : Int} {out : List Int} {i r : Nat} (ha : Asc t col out) (hb : ∀ x ∈ out, 0 ≤ x ∧ x < (i : Int)) (hr : r ≤ out.length) (h1 : ∀ j : Nat, r ≤ j → (j : Int) < out.length → idxKey t col i < idxKey t col (out.getD j 0))
  (h2 : r = 0 ∨ idxKey t col (out.getD (r - 1) 0) ≤ idxKey t col i) : Asc t col ((out.take r ++ [(i : Int)]) ++ out.drop r) := by
 have hsplit : (out.take r ++ out.drop r).Pairwise fun i j => idxLt t col j i = false := by rw [List.take_append_drop]; exact ha
 obtain ⟨p1, p2, p3⟩ := List.pairwise_append.1 hsplit
 have hlo : ∀ a ∈ out.take r, idxLt t col i a = false := by
  intro a ham
  have hai := hb a (List.mem_of_mem_take ham)
  obtain ⟨j, hj, rfl⟩ := List.mem_iff_getElem.1 ham
  rw [List.length_take] at hj
  rw [List.getElem_take] at hai ⊢
  rcases h2 with h2 | h2
  ·
   omega
  ·
   rw [getD_at (by omega)] at h2
   rw [idxLt_no]
   by_cases hjr : j = r - 1
   ·
    subst hjr
    omega
   ·
    have := List.pairwise_iff_getElem.1 ha j (r - 1) (by omega) (by omega) (by omega)
    rw [idxLt_no] at this
    omega
 have hhi : ∀ b ∈ out.drop r, idxLt t col b i = false := by
  intro b hbm
  obtain ⟨j, hj, rfl⟩ := List.mem_iff_getElem.1 hbm
  rw [List.length_drop] at hj
  rw [List.getElem_drop]
  have := h1 (r + j) (by omega) (by omega)
  rw [getD_at (by omega)] at this
  rw [idxLt_no]
  omega
 refine List.pairwise_append.2 ⟨List.pairwise_append.2 ⟨p1, List.pairwise_singleton _ _, fun a ham b hbm => ?_⟩, p2, fun a ham b hbm => ?_⟩
 ·
  rw [List.mem_singleton.1 hbm]
  exact hlo a ham
 ·
  rcases List.mem_append.1 ham with h | h
  ·
   exact p3 a h b hbm
  ·
   rw [List.mem_singleton.1 h]
   exact hhi b hbm

theorem sIndexOf_l0_spec (t : Tab) (col : Int) : ∀ (k i : Nat) (out : List Int), t.Rows.length - i < k → Asc t col out → (∀ x ∈ out, 0 ≤ x ∧ x < (i : Int)) →
  Asc t col (sIndexOf_l0 t col k i out) ∧ (sIndexOf_l0 t col k i out).Perm (out ++ nums t col (t.Rows.length - i) i) := by
 intro k
 induction k with
 | zero => intro i out h; omega
 | succ k ih =>
  intro i out h ha hb
  unfold sIndexOf_l0
  by_cases hlt : i < t.Rows.length
  ·
   rw [decide_eq_true (by omega : ((i : Nat) : Int) < ((List.length (Tab.Rows t) : Nat) : Int)), cond_true, show t.Rows.length - i = (t.Rows.length - (i + 1)) + 1 by omega]
   have en : nums t col ((t.Rows.length - (i + 1)) + 1) i = bif nullAt t col i then nums t col (t.Rows.length - (i + 1)) (i + 1) else ((i : Nat) : Int) :: nums t col (t.Rows.length - (i + 1)) (i + 1) := rfl
   rw [en, show Val.Null (List.getD (List.getD (Tab.Rows t) i []) (Int.toNat col) Val.zero) = nullAt t col i from rfl]
   cases nullAt t col i with
   | true =>
    rw [cond_true, cond_true]
    exact ih (i + 1) out (by omega) ha fun x hx => by have := hb x hx; omega
   | false =>
    rw [cond_false, cond_false]
    obtain ⟨r, q1, q2, q3, q4⟩ := inner_spec t col i out (Int.toNat ((List.length out : Nat) : Int) + 1) ((List.length out : Nat) : Int) (by omega) (Int.le_refl _) (by omega)
    unfold Go.Am.andThen
    simp only
    rw [q1, Int.toNat_natCast, List.nil_append, List.drop_zero, show List.take (List.length out - r) (List.drop r out) = out.drop r from List.take_of_length_le (by rw [List.length_drop]; omega)]
    have hp : ((out.take r ++ [((i : Nat) : Int)]) ++ out.drop r).Perm (out ++ [((i : Nat) : Int)]) := by
     have e1 : (out ++ [((i : Nat) : Int)]).Perm ((out.take r ++ out.drop r) ++ [((i : Nat) : Int)]) := by rw [List.take_append_drop]
     refine List.Perm.trans ?_ e1.symm
     rw [List.append_assoc, List.append_assoc]
     exact List.Perm.append_left _ List.perm_append_comm
    obtain ⟨s1, s2⟩ := ih (i + 1) _ (by omega) (ins_asc ha hb (by omega) (fun j hj1 hj2 => q3 j hj1 hj2) q4) fun x hx => by
     rcases List.mem_append.1 (hp.mem_iff.1 hx) with hx | hx
     ·
      have := hb x hx
      omega
     ·
      rw [List.mem_singleton.1 hx]
      omega
    refine ⟨s1, s2.trans ?_⟩
    have := hp.append_right (nums t col (t.Rows.length - (i + 1)) (i + 1))
    rw [List.append_assoc out] at this
    exact this
  ·
   rw [decide_eq_false (by omega), cond_false, show t.Rows.length - i = 0 by omega]
   exact ⟨ha, by rw [show nums t col 0 i = [] from rfl, List.append_nil]⟩

theorem hasColumn_same (t : Tab) (col : Int) : (bif (!(validTable t)) then true else (!(inRange col 0 ((Tab.Width t) - 1)))) = !(hasColumn t col) := by
 cases hc : hasColumn t col with
 | true =>
  have h := hasColumn_iff.1 hc
  rw [validTable_iff.2 h.1, inRange_iff.2 ⟨h.2.1, by have := h.2.2; omega⟩]
  rfl
 | false =>
  cases e : (bif (!(validTable t)) then true else (!(inRange col 0 ((Tab.Width t) - 1)))) with
  | true => rfl
  | false =>
   have e1 := or_neg e
   have e2 := inRange_iff.1 (not_neg e1.2)
   have : hasColumn t col = true := hasColumn_iff.2 ⟨validTable_iff.1 (not_neg e1.1), e2.1, by omega⟩
   rw [hc] at this
   cases this

theorem indexOf_same (t : Tab) (col : Int) : sIndexOf t col = iIndexOf t col := by
 unfold sIndexOf
 rw [hasColumn_same]
 cases hc : hasColumn t col with
 | false =>
  unfold iIndexOf
  rw [hc]
  rfl
 | true =>
  rw [iIndexOf_yes hc, Bool.not_true, cond_false]
  show sIndexOf_l0 t col (t.Rows.length - 0 + 1) 0 [] = _
  obtain ⟨s1, s2⟩ := sIndexOf_l0_spec t col (t.Rows.length - 0 + 1) 0 [] (by omega) List.Pairwise.nil (fun x hx => by cases hx)
  rw [List.nil_append, Nat.sub_zero] at s2
  exact idxSort_eq s2 s1

theorem isIn_iff {l : List Int} {n : Int} : isIn l n = true ↔ n ∈ l := by
 have hl : ∀ (k i : Nat), l.length - i < k → (Sum.elim (fun _ => false) (fun r => r) (isIn_l0 l n k i) = true ↔ n ∈ l.drop i) := by
  intro k
  induction k with
  | zero => intro i h; omega
  | succ k ih =>
   intro i h
   unfold isIn_l0
   by_cases hlt : i < l.length
   ·
    rw [decide_eq_true (by omega : ((i : Nat) : Int) < ((List.length l : Nat) : Int)), cond_true, List.drop_eq_getElem_cons hlt, getD_at hlt, List.mem_cons]
    by_cases he : l[i] = n
    ·
     rw [beq_iff_eq.2 he, cond_true]
     exact ⟨fun _ => .inl he.symm, fun _ => rfl⟩
    ·
     rw [beq_eq_false_iff_ne.2 he, cond_false, ih _ (by omega)]
     exact ⟨.inr, fun h => h.resolve_left fun e => he e.symm⟩
   ·
    rw [decide_eq_false (by omega), cond_false, List.drop_of_length_le (by omega)]
    simp
 have := hl (l.length - 0 + 1) 0 (by omega)
 rw [List.drop_zero] at this
 exact this

theorem FnIndexOf_law (code : List Int) : FnIndexOf code = true := by
 unfold FnIndexOf
 cases decide (1048576 < ((List.length code : Nat) : Int)) with
 | true => rfl
 | false =>
  rw [cond_false, indexOf_same, equalInts_self, Bool.not_true, cond_false]
  cases hc : hasColumn (DrawIndexOf code).1 (DrawIndexOf code).2 with
  | false =>
   cases e : (bif (bif (!(ValidTable ((DrawIndexOf code).1))) then true else (decide (((DrawIndexOf code).2) < 0))) then true else (decide ((Tab.Width ((DrawIndexOf code).1)) ≤ ((DrawIndexOf code).2)))) with
   | true => rfl
   | false =>
    exfalso
    have e1 := or_neg e
    have e2 := or_neg e1.1
    have h3 := of_decide_eq_false e2.2
    have h4 := of_decide_eq_false e1.2
    have : hasColumn (DrawIndexOf code).1 (DrawIndexOf code).2 = true := hasColumn_iff.2 ⟨ValidTable_iff.1 (not_neg e2.1), by omega, by omega⟩
    rw [hc] at this
    cases this
  | true =>
   have hv := hasColumn_iff.1 hc
   rw [ValidTable_iff.2 hv.1, decide_eq_false (show ¬ (DrawIndexOf code).2 < 0 by have := hv.2.1; omega), decide_eq_false (show ¬ Tab.Width (DrawIndexOf code).1 ≤ (DrawIndexOf code).2 by have := hv.2.2; omega)]
   simp only [Bool.not_true, cond_false]
   have hmem : ∀ x, x ∈ iIndexOf (DrawIndexOf code).1 (DrawIndexOf code).2 ↔ ∃ j : Nat, x = (j : Int) ∧ j < (DrawIndexOf code).1.Rows.length ∧ nullAt (DrawIndexOf code).1 (DrawIndexOf code).2 j = false := by
    intro x
    refine ⟨iIndexOf_mem, fun ⟨j, h1, h2, h3⟩ => ?_⟩
    rw [iIndexOf_yes hc]
    exact (idxSort_perm _ _ _).mem_iff.2 (nums_mem.2 ⟨j, h1, Nat.zero_le _, by omega, h3⟩)
   have hl0 : ∀ (k i : Nat), FnIndexOf_l0 code k i = .inl () := by
    intro k
    induction k with
    | zero => intro i; rfl
    | succ k ih =>
     intro i
     unfold FnIndexOf_l0
     by_cases hlt : i < (DrawIndexOf code).1.Rows.length
     ·
      have : ((isIn (iIndexOf (DrawIndexOf code).1 (DrawIndexOf code).2) ((i : Nat) : Int)) == (Val.Null (List.getD (List.getD (Tab.Rows (DrawIndexOf code).1) i []) (Int.toNat (DrawIndexOf code).2) Val.zero))) = false := by
       show (isIn (iIndexOf (DrawIndexOf code).1 (DrawIndexOf code).2) ((i : Nat) : Int) == nullAt (DrawIndexOf code).1 (DrawIndexOf code).2 i) = false
       cases hn : nullAt (DrawIndexOf code).1 (DrawIndexOf code).2 i with
       | false =>
        rw [isIn_iff.2 ((hmem _).2 ⟨i, rfl, hlt, hn⟩)]
        rfl
       | true =>
        cases hi : isIn (iIndexOf (DrawIndexOf code).1 (DrawIndexOf code).2) ((i : Nat) : Int) with
        | false => rfl
        | true =>
         obtain ⟨j, h1, _, h3⟩ := (hmem _).1 (isIn_iff.1 hi)
         obtain rfl : i = j := by omega
         rw [hn] at h3
         cases h3
      rw [this, cond_false, ih]
      cases decide (((i : Nat) : Int) < ((List.length (Tab.Rows (DrawIndexOf code).1) : Nat) : Int)) <;> rfl
     ·
      rw [decide_eq_false (by omega), cond_false]
   have hnd : (iIndexOf (DrawIndexOf code).1 (DrawIndexOf code).2).Nodup := by
    rw [iIndexOf_yes hc]
    refine (idxSort_perm _ _ _).nodup_iff.2 ((nums_asc _ _ _ _).imp fun h => ?_)
    omega
   have hasc : Asc (DrawIndexOf code).1 (DrawIndexOf code).2 (iIndexOf (DrawIndexOf code).1 (DrawIndexOf code).2) := by
    rw [iIndexOf_yes hc]
    exact idxSort_sorted _ _ _
   have hl1 : ∀ (k i : Nat), 1 ≤ i → FnIndexOf_l1 code k i = .inl () := by
    intro k
    induction k with
    | zero => intro i _; rfl
    | succ k ih =>
     intro i hi1
     unfold FnIndexOf_l1
     by_cases hlt : i < (iIndexOf (DrawIndexOf code).1 (DrawIndexOf code).2).length
     ·
      have h1 := List.pairwise_iff_getElem.1 hasc (i - 1) i (by omega) hlt (by omega)
      have h2 := List.pairwise_iff_getElem.1 hnd (i - 1) i (by omega) hlt (by omega)
      rw [idxLt_no, ← getD_at hlt, ← getD_at (show i - 1 < _ by omega)] at h1
      rw [← getD_at hlt, ← getD_at (show i - 1 < _ by omega)] at h2
      rw [show Int.toNat (((i : Nat) : Int) - 1) = i - 1 by omega, ih (i + 1) (by omega)]
      generalize List.getD (iIndexOf (DrawIndexOf code).1 (DrawIndexOf code).2) (i - 1) 0 = a at *
      generalize List.getD (iIndexOf (DrawIndexOf code).1 (DrawIndexOf code).2) i 0 = b at *
      unfold idxKey at h1
      rw [decide_eq_true (by omega : ((i : Nat) : Int) < _), cond_true, decide_eq_false (by omega), cond_false]
      generalize Val.N (List.getD (List.getD (Tab.Rows (DrawIndexOf code).1) (Int.toNat a) []) (Int.toNat (DrawIndexOf code).2) Val.zero) = x at *
      generalize Val.N (List.getD (List.getD (Tab.Rows (DrawIndexOf code).1) (Int.toNat b) []) (Int.toNat (DrawIndexOf code).2) Val.zero) = y at *
      by_cases hxy : x = y
      ·
       rw [beq_iff_eq.2 hxy, cond_true, decide_eq_false (by omega), cond_false]
      ·
       rw [beq_eq_false_iff_ne.2 hxy, cond_false, cond_false]
     ·
      rw [decide_eq_false (by omega), cond_false]
   rw [hl0, Sum.elim_inl, hl1 _ _ (Nat.le_refl _), Sum.elim_inl]

end
end Go.Proofs.Ytjcjpeckfikfkaa
