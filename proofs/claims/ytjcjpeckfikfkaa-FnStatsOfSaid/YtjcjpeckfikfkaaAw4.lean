/-
  A part of the proof of this claim (Aw4): what functions of the program compute, and plain facts of that. No conditions.
-/
import Derived.Test.YtjcjpeckfikfkaaAw3
set_option linter.all false
namespace Go.Proofs.Ytjcjpeckfikfkaa
open Go Go.Am
open List (length)
noncomputable section

/-! ### The order of rows -/

def vkey (v : Val) : Int := bif v.Null then -10000 else v.N

theorem vkey_inj {v w : Val} (hv : VV v) (hw : VV w) (h : vkey v = vkey w) : v = w := by
 unfold VV at hv hw; unfold vkey at h
 cases a : v.Null with
 | true =>
  cases b : w.Null with
  | true => simp only [a, b, if_true] at hv hw; exact Val.ext' (a.trans b.symm) (hv.trans hw.symm)
  | false => simp only [a, b, cond_true, cond_false, if_true, Bool.false_eq_true, if_false] at *; omega
 | false =>
  cases b : w.Null with
  | true => simp only [a, b, cond_true, cond_false, if_true, Bool.false_eq_true, if_false] at *; omega
  | false => simp only [a, b, cond_false] at h; exact Val.ext' (a.trans b.symm) h

def lexI : List Int → List Int → Int
 | [], [] => 0
 | [], _ :: _ => -1
 | _ :: _, [] => 1
 | a :: l, b :: m => if a < b then -1 else if b < a then 1 else lexI l m

theorem cv_key {v w : Val} (hv : VV v) (hw : VV w) : compareValues v w = if vkey v < vkey w then -1 else if vkey w < vkey v then 1 else 0 := by
 unfold VV at hv hw; unfold compareValues vkey
 cases a : v.Null with
 | true =>
  cases b : w.Null with
  | true =>
   simp only [a, b, if_true] at hv hw; simp [hv, hw]
  | false =>
   simp only [b, Bool.false_eq_true, if_false] at hw; simp; omega
 | false =>
  simp only [a, Bool.false_eq_true, if_false] at hv
  cases b : w.Null with
  | true =>
   simp; omega
  | false =>
   simp only [b, Bool.false_eq_true, if_false] at hw; simp only [beq_self_eq_true, cond_true, Bool.not_false, cond_false]; by_cases h1 : v.N = w.N
   · simp [h1]
   ·
    have h0 := beq_eq_false_iff_ne.2 h1; by_cases h2 : v.N < w.N
    · simp [h0, h2]
    · (have h3 : w.N < v.N := by omega); simp [h0, h2, h3]

theorem compareRows_l0_eq (a b : List Val) (hab : a.length = b.length) (ha : ∀ i < a.length, VV (a.getD i Val.zero)) (hb : ∀ i < b.length, VV (b.getD i Val.zero)) : ∀ (k i : Nat), a.length - i < k →
  Sum.elim (fun _ => ((length a : Int) - (length b : Int))) (fun r => r) (compareRows_l0 a b k i) = lexI ((a.drop i).map vkey) ((b.drop i).map vkey) := by
 intro k
 induction k with
 | zero => intro i h; omega
 | succ k ih =>
  intro i hk; unfold compareRows_l0; by_cases hi : i < a.length
  ·
   (have hi' : i < b.length := by omega); (have e1 : (i : Int) < (length a : Int) := by omega); (have e2 : (i : Int) < (length b : Int) := by omega); (have ga : a.getD i Val.zero = a[i] := by rw [List.getD_eq_getElem?_getD, List.getElem?_eq_getElem hi]; rfl); (have gb : b.getD i Val.zero = b[i] := by rw [List.getD_eq_getElem?_getD, List.getElem?_eq_getElem hi']; rfl); have va := ha i hi; have vb := hb i hi'; rw [List.drop_eq_getElem_cons hi, List.drop_eq_getElem_cons hi', List.map_cons, List.map_cons]; simp only [decide_eq_true e1, decide_eq_true e2, cond_true, lexI]; rw [cv_key va vb]; rw [ga, gb] at *; by_cases h1 : vkey a[i] < vkey b[i]
   · simp [h1]
   ·
    by_cases h2 : vkey b[i] < vkey a[i]
    · simp [h1, h2]
    · simp only [h1, h2, if_false, bne_self_eq_false, cond_false]; exact ih (i + 1) (by omega)
  · (have e1 : ¬ (i : Int) < (length a : Int) := by omega); rw [List.drop_of_length_le (by omega : a.length ≤ i), List.drop_of_length_le (by omega : b.length ≤ i)]; simp only [decide_eq_false e1, cond_false, Sum.elim_inl, List.map_nil, lexI]; omega

def rkey (r : List Val) : List Int := r.map vkey

theorem sRows_lex {a b : List Val} (ha : VR a) (hb : VR b) (hl : b.length = a.length) : compareRows a b = lexI (rkey a) (rkey b) := by
 have := compareRows_l0_eq a b hl.symm ha.vs hb.vs (a.length - 0 + 1) 0 (by omega)
 rw [List.drop_zero, List.drop_zero] at this
 exact this

theorem iRows_lex {a b : List Val} (ha : VR a) (hb : VR b) (hl : b.length = a.length) : icompareRows a b = lexI (rkey a) (rkey b) := (cmpRows ha hb hl).trans (sRows_lex ha hb hl)

theorem lexI_self : ∀ a : List Int, lexI a a = 0 := by
 intro a
 induction a with
 | nil => rfl
 | cons x a ih => simp [lexI, ih]

theorem lexI_trans : ∀ {a b c : List Int}, lexI a b < 0 → lexI b c < 0 → lexI a c < 0 := by
 intro a
 induction a with
 | nil =>
  intro b c h3 h4
  cases c with
  | nil => cases b with
   | nil => exact h3
   | cons => exact absurd h4 (by simp [lexI])
  | cons => show (-1 : Int) < 0; omega
 | cons x a ih =>
  intro b c h3 h4
  cases b with
  | nil => exact absurd h3 (by simp [lexI])
  | cons y b =>
   cases c with
   | nil => exact absurd h4 (by simp [lexI])
   | cons z c =>
    simp only [lexI] at *; by_cases q1 : x < y
    ·
     by_cases q2 : y < z
     · rw [if_pos (by omega)]; omega
     ·
      by_cases q3 : z < y
      · rw [if_neg q2, if_pos q3] at h4; omega
      · rw [if_pos (by omega)]; omega
    ·
     by_cases q1' : y < x
     · rw [if_neg q1, if_pos q1'] at h3; omega
     ·
      rw [if_neg q1, if_neg q1'] at h3; (obtain rfl : x = y := by omega); by_cases q2 : x < z
      · rw [if_pos q2]; omega
      ·
       by_cases q3 : z < x
       · rw [if_neg q2, if_pos q3] at h4; omega
       · rw [if_neg q2, if_neg q3] at h4 ⊢; exact ih h3 h4

theorem lexI_neg : ∀ (a b : List Int), lexI b a = - lexI a b := by
 intro a
 induction a with
 | nil => intro b; cases b <;> rfl
 | cons x a ih =>
  intro b
  cases b with
  | nil => rfl
  | cons y b =>
   simp only [lexI]; by_cases q1 : x < y
   · rw [if_pos q1, if_neg (by omega), if_pos q1]; rfl
   ·
    by_cases q2 : y < x
    · simp only [if_neg q1, if_pos q2]
    · simp only [if_neg q1, if_neg q2]; exact ih b

theorem lexI_zero : ∀ {a b : List Int}, lexI a b = 0 → a = b := by
 intro a
 induction a with
 | nil => intro b h0; cases b with
  | nil => rfl
  | cons => exact absurd h0 (by simp [lexI])
 | cons x a ih =>
  intro b h0
  cases b with
  | nil => exact absurd h0 (by simp [lexI])
  | cons y b =>
   simp only [lexI] at h0; by_cases q1 : x < y
   · rw [if_pos q1] at h0; omega
   ·
    by_cases q2 : y < x
    · rw [if_neg q1, if_pos q2] at h0; omega
    · rw [if_neg q1, if_neg q2] at h0; rw [ih h0, show x = y by omega]

theorem lexI_ntrans {a b c : List Int} (h1 : ¬ lexI a b < 0) (h2 : ¬ lexI b c < 0) : ¬ lexI a c < 0 := by
 intro h3; have e1 := lexI_neg a b; have e2 := lexI_neg b c; by_cases q : lexI b c = 0
 · rw [lexI_zero q] at h1; exact h1 h3
 · exact h1 (lexI_trans h3 (by omega))

theorem rkey_inj : ∀ {a b : List Val}, (∀ v ∈ a, VV v) → (∀ v ∈ b, VV v) → rkey a = rkey b → a = b := by
 intro a
 induction a with
 | nil => intro b _ _ h; cases b with
  | nil => rfl
  | cons => cases h
 | cons x a ih =>
  intro b ha hb h
  cases b with
  | nil => cases h
  | cons y b =>
   simp only [rkey, List.map_cons, List.cons.injEq] at h; rw [vkey_inj (ha x List.mem_cons_self) (hb y List.mem_cons_self) h.1, ih (fun v hv => ha v (List.mem_cons_of_mem _ hv)) (fun v hv => hb v (List.mem_cons_of_mem _ hv)) h.2]

theorem VR.mem {r : List Val} (h : VR r) : ∀ v ∈ r, VV v := by
 intro v hv; obtain ⟨i, hi, rfl⟩ := List.mem_iff_getElem.1 hv; have := h.vs i hi
 rwa [List.getD_eq_getElem?_getD, List.getElem?_eq_getElem hi] at this

def RowsW (wd : Nat) (rows : List (List Val)) : Prop := ∀ r ∈ rows, VR r ∧ r.length = wd
def RowsOK (rows : List (List Val)) : Prop := ∃ wd, RowsW wd rows

def rlt (a b : List Val) : Bool := decide (lexI (rkey a) (rkey b) < 0)

theorem rows_sortable (wd : Nat) : Sortable icompareRows (fun r => VR r ∧ r.length = wd) where
 irr x hx := by rw [iRows_lex hx.1 hx.1 rfl, lexI_self]; omega
 tr x y z hx hy hz h1 h2 := by
  rw [iRows_lex hx.1 hy.1 (by omega)] at h1; rw [iRows_lex hy.1 hz.1 (by omega)] at h2; rw [iRows_lex hx.1 hz.1 (by omega)]; exact lexI_trans h1 h2
 ntr x y z hx hy hz h1 h2 := by
  rw [iRows_lex hx.1 hy.1 (by omega)] at h1; rw [iRows_lex hy.1 hz.1 (by omega)] at h2; rw [iRows_lex hx.1 hz.1 (by omega)]; exact lexI_ntrans h1 h2
 anti x y hx hy h1 h2 := by
  rw [iRows_lex hx.1 hy.1 (by omega)] at h1; rw [iRows_lex hy.1 hx.1 (by omega)] at h2; have e1 := lexI_neg (rkey x) (rkey y); exact rkey_inj hx.1.mem hy.1.mem (lexI_zero (by omega))

def srtRows (rows : List (List Val)) : List (List Val) := rows.mergeSort fun x y => !rlt y x

theorem srtRows_len (rows : List (List Val)) : (srtRows rows).length = rows.length := List.length_mergeSort _
theorem srtRows_perm (rows : List (List Val)) : (srtRows rows).Perm rows := List.mergeSort_perm _ _
theorem srtRows_mem {rows : List (List Val)} {r : List Val} : r ∈ srtRows rows ↔ r ∈ rows := (srtRows_perm rows).mem_iff

theorem srtRows_sorted (rows : List (List Val)) : (srtRows rows).Pairwise fun x y => rlt y x = false := by
 have := List.pairwise_mergeSort (le := fun x y => !rlt y x) (fun a b c h1 h2 => ?_) (fun a b => ?_) rows
 · exact this.imp fun h => by simpa using h
 · simp only [rlt, Bool.not_eq_true', decide_eq_false_iff_not] at *; exact lexI_ntrans h2 h1
 · simp only [rlt, Bool.or_eq_true, Bool.not_eq_true', decide_eq_false_iff_not]; have := lexI_neg (rkey a) (rkey b); omega

theorem RowsW.sub {wd : Nat} {a b : List (List Val)} (h : RowsW wd b) (hs : ∀ r ∈ a, r ∈ b) : RowsW wd a := fun r hr => h r (hs r hr)
theorem RowsOK.sub {a b : List (List Val)} (h : RowsOK b) (hs : ∀ r ∈ a, r ∈ b) : RowsOK a := by
 obtain ⟨wd, h⟩ := h; exact ⟨wd, h.sub hs⟩
theorem RowsOK.len {a : List (List Val)} (h : RowsOK a) {r : List Val} (hr : r ∈ a) : 1 ≤ r.length ∧ r.length ≤ 6 := by
 obtain ⟨wd, h⟩ := h; exact ⟨(h r hr).1.n1, (h r hr).1.n6⟩
end
end Go.Proofs.Ytjcjpeckfikfkaa
