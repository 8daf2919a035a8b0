/-
  A part of the proof of this claim (AwJ): what functions of the program compute, and plain facts of that. No conditions.
-/
import Derived.Test.YtjcjpeckfikfkaaAwF
set_option linter.all false
namespace Go.Proofs.Ytjcjpeckfikfkaa
open Go Go.Am
open List (length getD)
noncomputable section

theorem stop_loop {R : Type} (c : R) (n : Nat) (bad : Nat → Bool) (L : Nat → Nat → Unit ⊕ R)
  (hS : ∀ k i, L (k + 1) i = bif decide ((i : Int) < (n : Int)) then (bif bad i then .inr c else L k (i + 1)) else .inl ()) :
  ∀ k i, n - i < k → (L k i = .inl () ∧ ∀ j, i ≤ j → j < n → bad j = false) ∨ (L k i = .inr c ∧ ∃ j, i ≤ j ∧ j < n ∧ bad j = true) := by
 intro k
 induction k with
 | zero => intro i h; omega
 | succ k ih =>
  intro i hk; rw [hS]; by_cases hi : i < n
  ·
   rw [decide_eq_true (by omega : (i : Int) < (n : Int)), cond_true]
   cases hb : bad i with
   | true => exact .inr ⟨rfl, i, Nat.le_refl _, hi, hb⟩
   | false =>
    rw [cond_false]; rcases ih (i + 1) (by omega) with ⟨h1, h2⟩ | ⟨h1, j, h2, h3⟩
    ·
     refine .inl ⟨h1, fun j hj hjn => ?_⟩; by_cases e : j = i
     · rw [e]; exact hb
     · exact h2 j (by omega) hjn
    · exact .inr ⟨h1, j, by omega, h3⟩
  · rw [decide_eq_false (by omega), cond_false]; exact .inl ⟨rfl, fun j hj hjn => by omega⟩

theorem eqV_self (v : Val) : (bif v.Null == v.Null then (bif v.N == v.N then true else false) else false) = true := by simp

theorem equalRows_self (a : List Val) : equalRows a a = true := by
 unfold equalRows; rw [bne_self_eq_false, cond_false]; rcases stop_loop false a.length (fun i => !(bif ((Val.Null (getD a i Val.zero)) == (Val.Null (getD a i Val.zero))) then (bif ((Val.N (getD a i Val.zero)) == (Val.N (getD a i Val.zero))) then true else false) else false)) (equalRows_l0 a a) (fun k i => rfl) (a.length - 0 + 1) 0 (by omega) with ⟨h, _⟩ | ⟨_, j, _, _, h⟩
 · rw [h]; rfl
 · rw [eqV_self] at h; cases h

theorem collect_l0_eq (width : Int) : ∀ (l ar : List (List Val)), ar.length + l.length ≤ 400 → collect_l0 width l ar = .inl (ar ++ l) := by
 intro l
 induction l with
 | nil => intro ar h; simp [collect_l0]
 | cons r l ih =>
  intro ar h; simp only [List.length_cons] at h; unfold collect_l0; rw [beq_eq_false_iff_ne.2 (by omega), cond_false, icopied_eq, ih _ (by simp only [List.length_append, List.length_cons, List.length_nil]; omega)]; simp

theorem collect_l0_big (width : Int) : ∀ (l ar : List (List Val)), ar.length ≤ 400 → 400 < ar.length + l.length → collect_l0 width l ar = .inr ⟨width, []⟩ := by
 intro l
 induction l with
 | nil => intro ar h1 h2; simp at h2; omega
 | cons r l ih =>
  intro ar h1 h2; simp only [List.length_cons] at h2; unfold collect_l0; by_cases h : ar.length = 400
  · rw [beq_iff_eq.2 (by omega), cond_true]
  · rw [beq_eq_false_iff_ne.2 (by omega), cond_false]; exact ih _ (by simp only [List.length_append, List.length_cons, List.length_nil]; omega) (by simp only [List.length_append, List.length_cons, List.length_nil]; omega)

theorem collect_eq (width : Int) (rows : List (List Val)) : collect width rows = if rows.length ≤ 400 then ⟨width, srtRows rows⟩ else ⟨width, []⟩ := by
 unfold collect; by_cases h : rows.length ≤ 400
 · rw [if_pos h, collect_l0_eq _ _ _ (by simpa using h)]; rfl
 · rw [if_neg h, collect_l0_big _ _ _ (by simp) (by simp; omega)]; rfl

/-! ### Sorted lists of rows -/

def RSorted (l : List (List Val)) : Prop := l.Pairwise fun x y => rlt y x = false

theorem rows_unique {wd : Nat} {a b : List (List Val)} (h : RowsW wd a) (hp : b.Perm a) (ha : RSorted a) (hb : RSorted b) : b = a := by
 refine sorted_unique hp hb ha fun x hx y hy h1 h2 => ?_; have q1 := h x (hp.mem_iff.1 hx); have q2 := h y (hp.mem_iff.1 hy); simp only [rlt, decide_eq_false_iff_not] at h1 h2; have e := lexI_neg (rkey x) (rkey y); exact rkey_inj q1.1.mem q2.1.mem (lexI_zero (by omega))

theorem srtRows_eq {wd : Nat} {a b : List (List Val)} (h : RowsW wd a) (hp : b.Perm a) (hb : RSorted b) : b = srtRows a :=
 rows_unique (h.sub fun _ hr => srtRows_mem.1 hr) (hp.trans (srtRows_perm a).symm) (srtRows_sorted a) hb

theorem rle_trans {a b c : List Val} (h1 : rlt b a = false) (h2 : rlt c b = false) : rlt c a = false := by
 simp only [rlt, decide_eq_false_iff_not] at *; exact lexI_ntrans h2 h1

theorem cmp_le {wd : Nat} {a b : List Val} (ha : VR a ∧ a.length = wd) (hb : VR b ∧ b.length = wd) : compareRows a b ≤ 0 ↔ rlt b a = false := by
 rw [sRows_lex ha.1 hb.1 (by omega)]; simp only [rlt, decide_eq_false_iff_not]; have := lexI_neg (rkey a) (rkey b); omega

structure Fits (width : Int) (rows : List (List Val)) : Prop where
 w1 : 1 ≤ width
 w6 : width ≤ 6
 n4 : rows.length ≤ 400
 rows : RowsW width.toNat rows

theorem iTableOf_yes {width : Int} {rows : List (List Val)} (h : Fits width rows) : iTableOf width rows = (⟨width, srtRows rows⟩, true) := by
 unfold iTableOf; rw [validWidth_iff.2 ⟨h.w1, h.w6⟩, Bool.not_true, cond_false, decide_eq_false (by have := h.n4; omega), cond_false]; rcases stop_loop ((Tab.mk 0 ([] : List (List Val))), false) rows.length (fun i => bif ((length (getD rows i []) : Int) != width) then true else (!(ivalidRow (getD rows i [])))) (iTableOf_l0 width rows) (fun k i => rfl) (rows.length - 0 + 1) 0 (by omega) with ⟨h1, _⟩ | ⟨_, j, _, hj, hb⟩
 · rw [h1]; simp only [Sum.elim_inl]; rw [show valuesF rows = rows from rfl, collect_eq, if_pos h.n4]
 · have := h.rows _ (getD_mem rows j [] hj); rw [ivalidRow_iff.2 this.1, bne_eq_false_iff_eq.2 (by rw [this.2]; have := h.w1; omega)] at hb; cases hb

theorem vt_srt {width : Int} {rows : List (List Val)} (h : Fits width rows) : VT ⟨width, srtRows rows⟩ where
 w1 := h.w1
 w6 := h.w6
 n4 := by show (srtRows rows).length ≤ 400; rw [srtRows_len]; exact h.n4
 rows i hi := by
  have := h.rows _ (srtRows_mem.1 (getD_mem (srtRows rows) i [] hi)); refine ⟨this.1, ?_⟩; show (((getD (srtRows rows) i []).length : Nat) : Int) = width; have := h.w1; omega
 sorted i hi h0 := by
  have hi : i < (srtRows rows).length := hi; (have g : ∀ j (hj : j < (srtRows rows).length), (srtRows rows).getD j [] = (srtRows rows)[j] := fun j hj => by rw [List.getD_eq_getElem?_getD, List.getElem?_eq_getElem hj]; rfl); have w := fun j (hj : j < (srtRows rows).length) => h.rows _ (srtRows_mem.1 (getD_mem (srtRows rows) j [] hj)); show compareRows ((srtRows rows).getD (i - 1) []) ((srtRows rows).getD i []) ≤ 0; rw [cmp_le (w (i - 1) (by omega)) (w i hi), g _ hi, g _ (by omega)]; exact List.pairwise_iff_getElem.1 (srtRows_sorted rows) (i - 1) i (by omega) hi (by omega)

end
end Go.Proofs.Ytjcjpeckfikfkaa
