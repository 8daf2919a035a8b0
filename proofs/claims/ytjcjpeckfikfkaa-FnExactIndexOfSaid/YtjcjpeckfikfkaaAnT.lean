/-
  An, part T: marks in a list, and the look at them again, in plain terms.
-/
import Derived.Test.YtjcjpeckfikfkaaAnL
set_option linter.all false
namespace Go.Am
open List

section
variable {α : Type} (m : α → Int → α × Int) (ok : α → Int → Prop)

def kf : List α → Int → Int
  | [], k => k
  | x :: l, k => kf l (m x k).2

def OKL : List α → Int → Prop
  | [], _ => True
  | x :: l, k => ok x k ∧ OKL l (m x k).2

variable {m ok}

theorem lgetD_set_ne {a : List α} {i j : Nat} {x d : α} (h : i ≠ j) : (a.set i x).getD j d = a.getD j d := by
  simp only [getD_eq_getElem?_getD, getElem?_set_ne h]

theorem lgetD_set_eq {a : List α} {i : Nat} {x d : α} (h : i < a.length) : (a.set i x).getD i d = x := by
  simp [getD_eq_getElem?_getD, h]

theorem drop_set_lt {a : List α} {i : Nat} {x : α} : (a.set i x).drop (i + 1) = a.drop (i + 1) := by
  rw [drop_set_of_lt (Nat.lt_succ_self i)]

theorem drop_getD {a : List α} {i : Nat} {d : α} (h : i < a.length) : a.drop i = a.getD i d :: a.drop (i + 1) := by
  rw [drop_eq_getElem_cons h]; simp [getD_eq_getElem?_getD, h]

theorem mark_held (d : α) (L : Nat → Int → Nat → List α → Int × List α) (H : List α → Nat → Int → Nat → Int ⊕ Int)
    (hL1 : ∀ n k i a, i < a.length → L (n + 1) k i a = L n (m (a.getD i d) k).2 (i + 1) (a.set i (m (a.getD i d) k).1)) (hL0 : ∀ n k i a, ¬ i < a.length → L (n + 1) k i a = (k, a))
    (hH1 : ∀ b n k i x, i < b.length → b.getD i d = (m x k).1 → ok x k → H b (n + 1) k i = H b n (m x k).2 (i + 1)) (hH0 : ∀ b n k i, ¬ i < b.length → H b (n + 1) k i = .inl k) :
    ∀ n k i a, a.length - i < n → OKL m ok (a.drop i) k → (L n k i a).1 = kf m (a.drop i) k ∧ (L n k i a).2.length = a.length ∧ (∀ j, j < i → (L n k i a).2.getD j d = a.getD j d) ∧
      ∀ n', a.length - i < n' → H (L n k i a).2 n' k i = .inl (kf m (a.drop i) k) := by
  intro n
  induction n with
  | zero => intro k i a h; omega
  | succ n ih =>
    intro k i a hn hok; by_cases hi : i < a.length
    · rw [drop_getD (d := d) hi] at hok ⊢; obtain ⟨ho, hok⟩ := hok; rw [hL1 n k i a hi]; have hd : (a.set i (m (a.getD i d) k).1).drop (i + 1) = a.drop (i + 1) := drop_set_lt; obtain ⟨h1, h2, h3, h4⟩ := ih (m (a.getD i d) k).2 (i + 1) (a.set i (m (a.getD i d) k).1) (by rw [length_set]; omega) (by rw [hd]; exact hok); rw [hd] at h1 h4; rw [length_set] at h2 h4; refine ⟨h1, h2, fun j hj => ?_, fun n' hn' => ?_⟩
      · rw [h3 j (by omega), lgetD_set_ne (by omega)]
      · obtain ⟨n', rfl⟩ : ∃ q, n' = q + 1 := ⟨n' - 1, by omega⟩; rw [hH1 _ n' k i (a.getD i d) (by rw [h2]; exact hi) ?_ ho, h4 n' (by omega)]
        · rfl
        · rw [h3 i (Nat.lt_succ_self i), lgetD_set_eq hi]
    · rw [hL0 n k i a hi, drop_of_length_le (by omega)]; refine ⟨rfl, rfl, fun _ _ => rfl, fun n' hn' => ?_⟩; obtain ⟨n', rfl⟩ : ∃ q, n' = q + 1 := ⟨n' - 1, by omega⟩; exact hH0 _ _ _ _ hi

theorem kf_sum {c : α → Nat} {B : Int} (h : ∀ x k, 0 ≤ k → k + (c x : Nat) ≤ B → (m x k).2 = k + (c x : Nat) ∧ ok x k) : ∀ (l : List α) (k : Int), 0 ≤ k → k + (((l.map c).sum : Nat) : Int) ≤ B →
    kf m l k = k + (((l.map c).sum : Nat) : Int) ∧ OKL m ok l k := by
  intro l
  induction l with
  | nil => intro k _ _; exact ⟨by simp [kf], trivial⟩
  | cons x l ih =>
    intro k h0 hB; simp only [map_cons, sum_cons, Int.natCast_add] at hB ⊢; obtain ⟨h1, h2⟩ := h x k h0 (by omega); obtain ⟨h3, h4⟩ := ih (k + (c x : Nat)) (by omega) (by omega); refine ⟨?_, h2, ?_⟩
    · show kf m l (m x k).2 = _; rw [h1, h3]; omega
    · show OKL m ok l (m x k).2; rw [h1]; exact h4

theorem wrapI {x : Int} (h : 0 ≤ x) (h' : x ≤ 4611686018427387904) : IntKind.wrap .i64 x = x := by
  rw [IntKind.wrap_i64]; omega

theorem sum_le {α : Type} {c : α → Nat} {b : Nat} : ∀ (l : List α), (∀ x ∈ l, c x ≤ b) → (l.map c).sum ≤ l.length * b := by
  intro l
  induction l with
  | nil => intro _; simp
  | cons x l ih =>
    intro h; have h1 := h x mem_cons_self; have h2 := ih fun y hy => h y (mem_cons_of_mem _ hy); simp only [map_cons, sum_cons, length_cons, Nat.add_mul, Nat.one_mul]; omega

end
end Go.Am
