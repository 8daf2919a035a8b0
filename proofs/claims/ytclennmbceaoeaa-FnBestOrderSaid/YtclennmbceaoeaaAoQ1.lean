/-
  A part of the proof of this claim (AoQ1): what functions of the program compute, and plain facts of that. No conditions.
-/
import Derived.Test.YtclennmbceaoeaaAo6
import Derived.Test.YtclennmbceaoeaaAnG
import Derived.Test.YtclennmbceaoeaaAoX
import Derived.Test.YtclennmbceaoeaaAoT2
set_option linter.all false
namespace Go.Proofs.Ytclennmbceaoeaa
open Go Go.Am
open List (length getD)

section
variable {n : Int} (hn : n ≤ 5)
include hn

end
end Go.Proofs.Ytclennmbceaoeaa


namespace Go.Proofs.Ytclennmbceaoeaa
open Go Go.Am

theorem powf2 : ∀ (n : Fin 6) (i : Fin 5), i.val < n.val → (1 : Int) ≤ (1 : Int) * 2 ^ i.val ∧ (1 : Int) * 2 ^ i.val < (1 : Int) * 2 ^ n.val := by decide +kernel

theorem powf3 {n i : Nat} (hn : n ≤ 5) (hi : i < n) : (1 : Int) ≤ (1 : Int) * 2 ^ i ∧ (1 : Int) * 2 ^ i < (1 : Int) * 2 ^ n := powf2 ⟨n, by omega⟩ ⟨i, by omega⟩ hi

end Go.Proofs.Ytclennmbceaoeaa


namespace Go.Proofs.Ytclennmbceaoeaa
open Go Go.Am
open List (length getD)

theorem parts_all : ∀ m v : Fin 32, 1 ≤ v.val → v.val < m.val → bits .andNot .i64 (v.val : Int) (m.val : Int) = 0 → (v.val : Int) ∈ parts (m.val : Int) := by decide +kernel

theorem one_facts2 : ∀ i : Fin 5, parts ((1 : Int) * 2 ^ i.val) = [] := by decide +kernel

theorem single_zero2 {g : Graph} (hV : VG g) {i : Nat} (hi : i < g.Rows.length) : getD (bestCosts g).1 (Int.toNat ((1 : Int) * 2 ^ i)) 0 = 0 := by
 have h5 := hV.n5; obtain ⟨hbl, _, hR, _⟩ := impl_best hV; have hp := powf3 h5 hi; (have hG : gAll g + 1 = 1 * 2 ^ (length (Graph.Rows g)) := by unfold gAll; omega); rw [hR.eq _ (by omega) (by omega)]; unfold best; rw [show ((Int.toNat ((1 : Int) * 2 ^ i) : Nat) : Int) = (1 : Int) * 2 ^ i by omega, one_facts2 ⟨i, by omega⟩]; rfl

theorem best_cost {g : Graph} (hV : VG g) : (iBestTree g).2 = getD (bestCosts g).1 (Int.toNat (gAll g)) 0 := by
 unfold iBestTree; rw [ValidGraph_iff.2 hV]; rfl

end Go.Proofs.Ytclennmbceaoeaa


namespace Go.Proofs.Ytclennmbceaoeaa
open Go Go.Am

inductive Path (n : Nat) : List Int → Int → Prop
 | nil : Path n [] 0
 | snoc {l : List Int} {u : Int} {i : Nat} (h : Path n l u) (hi : i < n) (hb : bits .and .i64 u ((1 : Int) * 2 ^ i) = 0) : Path n (l ++ [((i : Nat) : Int)]) (bits .or .i64 u ((1 : Int) * 2 ^ i))

theorem Path.mu {g : Graph} (hV : VG g) {l : List Int} {u : Int} (h : Path g.Rows.length l u) : MU g.Rows.length l u := by
 induction h with
 | nil => exact MU.zero hV
 | snoc h hi hb ih => exact ih.next hV.n5 hi hb

def Good (g : Graph) (r : Rz) : Prop := r.2 = -1 ∨ ∃ u, Path g.Rows.length r.1 u ∧ r.1.length = g.Rows.length ∧ r.2 = orderCost g r.1

theorem leaf_good {g : Graph} {l : List Int} {u : Int} {r : Rz} (h : Path g.Rows.length l u) (hl : l.length = g.Rows.length) (hr : Good g r) : Good g (leaf l (orderCost g l) r) := by
 unfold leaf
 cases (bif r.2 == -1 then true else decide (orderCost g l < r.2)) with
 | true => exact .inr ⟨u, h, hl, rfl⟩
 | false => exact hr

theorem all_len {g : Graph} (hV : VG g) {l : List Int} {u : Int} (h : MU g.Rows.length l u) (e : (u == gAll g) = true) : l.length = g.Rows.length := by
 rw [all_iff hV h] at e; have := beq_iff_eq.1 e; omega

theorem ext_good {g : Graph} (hV : VG g) : ∀ (f : Nat) (l : List Int) (u : Int) (r : Rz), Path g.Rows.length l u → Good g r → Good g (ext g f l u (orderCost g l) r) := by
 have h5 := hV.n5; intro f
 induction f with
 | zero =>
  intro l u r h hr; unfold ext
  cases e : (u == gAll g) with
  | true => exact leaf_good h (all_len hV (h.mu hV) e) hr
  | false => exact hr
 | succ f ih =>
  intro l u r h hr; unfold ext
  cases e : (u == gAll g) with
  | true => exact leaf_good h (all_len hV (h.mu hV) e) hr
  | false =>
   rw [cond_false]
   have key : ∀ (k i : Nat) (r : Rz), Good g r → Good g (extL g (ext g f) l u (orderCost g l) k i r) := by
    intro k
    induction k with
    | zero => intro i r hr; exact hr
    | succ k ihk =>
     intro i r hr; unfold extL; by_cases hlt : i < g.Rows.length
     ·
      rw [decide_eq_true (by omega), cond_true]; by_cases hb : bits .and .i64 u ((1 : Int) * 2 ^ i) = 0
      · rw [show (bits .and .i64 u ((1 : Int) * 2 ^ i) != 0) = false by rw [hb]; rfl, cond_false, oc_next hV (h.mu hV) hlt hb]; exact ihk _ _ (ih _ _ _ (h.snoc hlt hb) hr)
      · rw [show (bits .and .i64 u ((1 : Int) * 2 ^ i) != 0) = true from bne_iff_ne.2 hb, cond_true]; exact ihk _ _ hr
     · rw [decide_eq_false (by omega), cond_false]; exact hr
   exact key _ _ _ hr

theorem order_good (g : Graph) (h : 0 ≤ (iBestOrder g).2) : VG g ∧ ∃ u, Path g.Rows.length (iBestOrder g).1 u ∧ (iBestOrder g).1.length = g.Rows.length ∧ (iBestOrder g).2 = orderCost g (iBestOrder g).1 := by
 have e : ValidGraph g = true := by
  cases hv : ValidGraph g with
  | true => rfl
  | false =>
   unfold iBestOrder at h; rw [hv] at h; exact absurd (show (0 : Int) ≤ -1 from h) (by decide)
 have hV := ValidGraph_iff.1 e; refine ⟨hV, ?_⟩
 have h0 : iBestOrder g = ext g (List.length g.Rows) [] 0 (orderCost g []) ([], -1) := by
  unfold iBestOrder; rw [e]; rfl
 have := ext_good hV (List.length g.Rows) [] 0 ([], -1) .nil (.inl rfl)
 rw [← h0] at this
 rcases this with h1 | h1
 · omega
 · exact h1

/-! ### No order is cheaper -/

inductive Comp (n : Nat) : List Int → Int → List Int → Prop
 | nil {l : List Int} {u : Int} (h : l.length = n) : Comp n l u []
 | cons {l : List Int} {u : Int} {i : Nat} {t : List Int} (hi : i < n) (hl : l.length < n) (hb : bits .and .i64 u ((1 : Int) * 2 ^ i) = 0) (h : Comp n (l ++ [((i : Nat) : Int)]) (bits .or .i64 u ((1 : Int) * 2 ^ i)) t) : Comp n l u (((i : Nat) : Int) :: t)

def Bet (r' r : Rz) : Prop := 0 ≤ r.2 → 0 ≤ r'.2 ∧ r'.2 ≤ r.2

theorem leaf_le {l : List Int} {c : Int} {r : Rz} (hc : 0 ≤ c) (hr : RB r) : (0 ≤ (leaf l c r).2 ∧ (leaf l c r).2 ≤ c) ∧ Bet (leaf l c r) r := by
 unfold leaf Bet; have h1 := hr.1; by_cases e : r.2 = -1
 · rw [beq_iff_eq.2 e, cond_true, cond_true]; exact ⟨⟨hc, Int.le_refl _⟩, fun h => by omega⟩
 ·
  rw [beq_false_of_ne e, cond_false]; by_cases hlt : c < r.2
  · rw [decide_eq_true hlt, cond_true]; exact ⟨⟨hc, Int.le_refl _⟩, fun h => ⟨hc, by show c ≤ r.2; omega⟩⟩
  · rw [decide_eq_false hlt, cond_false]; exact ⟨⟨by omega, by omega⟩, fun h => ⟨h, Int.le_refl _⟩⟩

theorem Bet.refl (r : Rz) : Bet r r := fun h => ⟨h, Int.le_refl _⟩
theorem Bet.trans {a b c : Rz} (h : Bet a b) (k : Bet b c) : Bet a c := fun h0 => by
 obtain ⟨k1, k2⟩ := k h0; obtain ⟨h1, h2⟩ := h k1; exact ⟨h1, Int.le_trans h2 k2⟩

theorem ext_bet {g : Graph} (hV : VG g) : ∀ (f : Nat) (l : List Int) (u : Int) (r : Rz), MU g.Rows.length l u → RB r → Bet (ext g f l u (orderCost g l) r) r := by
 have h5 := hV.n5; intro f
 induction f with
 | zero =>
  intro l u r h hr; unfold ext
  cases (u == gAll g) with
  | true => exact (leaf_le (oc_bd hV h).1 hr).2
  | false => exact Bet.refl r
 | succ f ih =>
  intro l u r h hr; unfold ext
  cases (u == gAll g) with
  | true => exact (leaf_le (oc_bd hV h).1 hr).2
  | false =>
   rw [cond_false]
   have key : ∀ (k i : Nat) (r : Rz), RB r → Bet (extL g (ext g f) l u (orderCost g l) k i r) r := by
    intro k
    induction k with
    | zero => intro i r hr; exact Bet.refl r
    | succ k ihk =>
     intro i r hr; unfold extL; by_cases hlt : i < g.Rows.length
     ·
      rw [decide_eq_true (by omega), cond_true]; by_cases hb : bits .and .i64 u ((1 : Int) * 2 ^ i) = 0
      · rw [show (bits .and .i64 u ((1 : Int) * 2 ^ i) != 0) = false by rw [hb]; rfl, cond_false, oc_next hV h hlt hb]; have hx := h.next h5 hlt hb; exact (ihk _ _ (ext_RB hV f hx hr)).trans (ih _ _ _ hx hr)
      · rw [show (bits .and .i64 u ((1 : Int) * 2 ^ i) != 0) = true from bne_iff_ne.2 hb, cond_true]; exact ihk _ _ hr
     · rw [decide_eq_false (by omega), cond_false]; exact Bet.refl r
   exact key _ _ _ hr

theorem extL_bet {g : Graph} (hV : VG g) (f : Nat) {l : List Int} {u : Int} (h : MU g.Rows.length l u) : ∀ (k i : Nat) (r : Rz), RB r → Bet (extL g (ext g f) l u (orderCost g l) k i r) r := by
 have h5 := hV.n5; intro k
 induction k with
 | zero => intro i r hr; exact Bet.refl r
 | succ k ihk =>
  intro i r hr; unfold extL; by_cases hlt : i < g.Rows.length
  ·
   rw [decide_eq_true (by omega), cond_true]; by_cases hb : bits .and .i64 u ((1 : Int) * 2 ^ i) = 0
   · rw [show (bits .and .i64 u ((1 : Int) * 2 ^ i) != 0) = false by rw [hb]; rfl, cond_false, oc_next hV h hlt hb]; have hx := h.next h5 hlt hb; exact (ihk _ _ (ext_RB hV f hx hr)).trans (ext_bet hV f _ _ _ hx hr)
   · rw [show (bits .and .i64 u ((1 : Int) * 2 ^ i) != 0) = true from bne_iff_ne.2 hb, cond_true]; exact ihk _ _ hr
  · rw [decide_eq_false (by omega), cond_false]; exact Bet.refl r

theorem ext_min {g : Graph} (hV : VG g) : ∀ (f : Nat) (l : List Int) (u : Int) (t : List Int) (r : Rz), MU g.Rows.length l u → g.Rows.length ≤ l.length + f → Comp g.Rows.length l u t → RB r →
  0 ≤ (ext g f l u (orderCost g l) r).2 ∧ (ext g f l u (orderCost g l) r).2 ≤ orderCost g (l ++ t) := by
 have h5 := hV.n5
 have full : ∀ (f : Nat) (l : List Int) (u : Int) (r : Rz), MU g.Rows.length l u → l.length = g.Rows.length → RB r → 0 ≤ (ext g f l u (orderCost g l) r).2 ∧ (ext g f l u (orderCost g l) r).2 ≤ orderCost g (l ++ []) := by
  intro f l u r h hl hr; have e : (u == gAll g) = true := beq_iff_eq.2 (h.km.all hV (by omega)); rw [List.append_nil]
  cases f with
  | zero => unfold ext; rw [e, cond_true]; exact (leaf_le (oc_bd hV h).1 hr).1
  | succ f => unfold ext; rw [e, cond_true]; exact (leaf_le (oc_bd hV h).1 hr).1
 intro f
 induction f with
 | zero =>
  intro l u t r h hf hC hr
  cases hC with
  | nil hl => exact full 0 l u r h hl hr
  | cons hi hl hb hC => omega
 | succ f ih =>
  intro l u t r h hf hC hr
  cases hC with
  | nil hl => exact full _ l u r h hl hr
  | @cons _ _ i t hi hl hb hC =>
   have e : (u == gAll g) = false := by
    cases e : (u == gAll g) with
    | false => rfl
    | true => have := all_len hV h e; omega
   unfold ext; rw [e, cond_false]
   have key : ∀ (k j : Nat) (r : Rz), RB r → g.Rows.length - j < k → j ≤ i → 0 ≤ (extL g (ext g f) l u (orderCost g l) k j r).2 ∧ (extL g (ext g f) l u (orderCost g l) k j r).2 ≤ orderCost g (l ++ ((i : Nat) : Int) :: t) := by
    intro k
    induction k with
    | zero => intro j r hr hk; omega
    | succ k ihk =>
     intro j r hr hk hj; unfold extL; rw [decide_eq_true (by omega), cond_true]; by_cases hji : j = i
     · subst hji; rw [show (bits .and .i64 u ((1 : Int) * 2 ^ j) != 0) = false by rw [hb]; rfl, cond_false, oc_next hV h hi hb]; have hx := h.next h5 hi hb; have h1 := ih _ _ t r hx (by rw [List.length_append, List.length_cons, List.length_nil]; omega) hC hr; rw [List.append_assoc] at h1; obtain ⟨k1, k2⟩ := extL_bet hV f h k (j + 1) _ (ext_RB hV f hx hr) h1.1; exact ⟨k1, Int.le_trans k2 h1.2⟩
     ·
      by_cases hb2 : bits .and .i64 u ((1 : Int) * 2 ^ j) = 0
      · rw [show (bits .and .i64 u ((1 : Int) * 2 ^ j) != 0) = false by rw [hb2]; rfl, cond_false, oc_next hV h (show j < g.Rows.length by omega) hb2]; exact ihk (j + 1) _ (ext_RB hV f (h.next h5 (show j < g.Rows.length by omega) hb2) hr) (by omega) (by omega)
      · rw [show (bits .and .i64 u ((1 : Int) * 2 ^ j) != 0) = true from bne_iff_ne.2 hb2, cond_true]; exact ihk (j + 1) r hr (by omega) (by omega)
   exact key _ _ _ hr (by omega) (Nat.zero_le _)

theorem order_min {g : Graph} (hV : VG g) {t : List Int} (hC : Comp g.Rows.length [] 0 t) : 0 ≤ (iBestOrder g).2 ∧ (iBestOrder g).2 ≤ orderCost g t := by
 have h0 : iBestOrder g = ext g (List.length g.Rows) [] 0 (orderCost g []) ([], -1) := by
  unfold iBestOrder; rw [ValidGraph_iff.2 hV]; rfl
 rw [h0]; exact ext_min hV (List.length g.Rows) [] 0 t ([], -1) (MU.zero hV) (by simp) hC ⟨by decide, by decide⟩

/-! ### The best tree is not dearer -/

theorem pth1 : ∀ (u : Fin 32) (i : Fin 5), 1 ≤ u.val → bits .and .i64 (u.val : Int) ((1 : Int) * 2 ^ i.val) = 0 →
  bits .andNot .i64 (u.val : Int) (bits .or .i64 (u.val : Int) ((1 : Int) * 2 ^ i.val)) = 0 ∧ bits .or .i64 (u.val : Int) ((1 : Int) * 2 ^ i.val) = (u.val : Int) + (1 : Int) * 2 ^ i.val := by decide +kernel

theorem path_best {g : Graph} (hV : VG g) {l : List Int} {u : Int} (h : Path g.Rows.length l u) : List.getD (bestCosts g).1 (Int.toNat u) 0 ≤ orderCost g l := by
 have h5 := hV.n5; obtain ⟨hbl, _, hR, _⟩ := impl_best hV; have hG : gAll g + 1 = 1 * 2 ^ (List.length (Graph.Rows g)) := by unfold gAll; omega
 induction h with
 | nil => exact Int.le_of_eq hR.zero
 | @snoc l u i h hi hb ih =>
  have hm := h.mu hV; have hx := hm.next h5 hi hb; have hu0 := hm.km.m0; have hu32 := hm.km.lt32 h5; have hx0 := hx.km.m0; have hx32 := hx.km.lt32 h5; have hxlt := hx.km.lt; have hp := p16 ⟨i, by omega⟩; simp only at hp; rw [← oc_next hV hm hi hb]; by_cases h0 : u = 0
  · subst h0; have e : bits .or .i64 0 ((1 : Int) * 2 ^ i) = (1 : Int) * 2 ^ i := (show ∀ i : Fin 5, bits .or .i64 0 ((1 : Int) * 2 ^ i.val) = (1 : Int) * 2 ^ i.val by decide +kernel) ⟨i, by omega⟩; have hz := single_zero2 hV hi; have := (oc_bd hV hm).1; rw [e, hz]; show (0 : Int) ≤ orderCost g l + 0; omega
  ·
   obtain ⟨p1, p2⟩ := pth1 ⟨u.toNat, by omega⟩ ⟨i, by omega⟩ (by show 1 ≤ u.toNat; omega) (by simp only [Int.toNat_of_nonneg hu0]; exact hb); simp only [Int.toNat_of_nonneg hu0] at p1 p2; rw [bne_iff_ne.2 h0, cond_true, size_eq hV hx0 (by omega)]; generalize hmm : bits .or .i64 u ((1 : Int) * 2 ^ i) = m at *
   have hmem : u ∈ parts m := by
    have := parts_all ⟨m.toNat, by omega⟩ ⟨u.toNat, by omega⟩ (by show 1 ≤ u.toNat; omega) (by show u.toNat < m.toNat; omega)
    simp only [Int.toNat_of_nonneg hu0, Int.toNat_of_nonneg hx0] at this
    exact this p1
   obtain ⟨k, rfl⟩ := Int.eq_ofNat_of_zero_le hx0; have hsz := sSize_b hV (m := (k : Int)) (by omega) (by omega); rw [Int.toNat_natCast, hR.eq k (by omega) (by omega)]
   have hle := (mn_le (c := (bestCosts g).1) (mask := k) (parts (k : Int)) (-1, 0) (fun v _ => by
    have h1 := hR.nn v.toNat; have h2 := hR.nn (k - v.toNat); unfold sumAt
    omega)).2.1 u hmem
   have hz := single_zero2 hV hi
   have hs : sumAt (bestCosts g).1 k u = List.getD (bestCosts g).1 u.toNat 0 + 0 := by
    unfold sumAt; rw [show k - u.toNat = Int.toNat ((1 : Int) * 2 ^ i) by omega, hz]
   have hx := hR.nn u.toNat; unfold val best; by_cases hneg : (mn (bestCosts g).1 k (parts (k : Int)) (-1, 0)).1 < 0
   · rw [decide_eq_true hneg, cond_true]; omega
   · rw [decide_eq_false hneg, cond_false]; omega

theorem tree_le {g : Graph} (hV : VG g) {l : List Int} {u : Int} (h : Path g.Rows.length l u) (hl : l.length = g.Rows.length) : (iBestTree g).2 ≤ orderCost g l := by
 rw [best_cost hV]; have e : u = gAll g := (h.mu hV).km.all hV (by omega); have := path_best hV h
 rw [e] at this
 exact this

end Go.Proofs.Ytclennmbceaoeaa
