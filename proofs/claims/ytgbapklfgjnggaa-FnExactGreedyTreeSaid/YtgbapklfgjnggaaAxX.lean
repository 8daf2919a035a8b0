/-
  A part of the proof of this claim (AxX): what functions of the program compute, and plain facts of that. No conditions.
-/
import Derived.Test.YtgbapklfgjnggaaAxT
import Derived.Test.YtgbapklfgjnggaaAnE
import Derived.WalkKit
import Derived.TacticsIn
import Derived.BigFrameIn
import Derived.Test.YtgbapklfgjnggaaAx6
import Derived.Test.YtgbapklfgjnggaaAx7
set_option linter.all false
namespace Go.Proofs.Ytgbapklfgjnggaa
open Go Go.Am
open Go.RowKit
noncomputable section

def partsFrom (mask : Int) : Nat → Int → List Int
 | 0, _ => []
 | k + 1, p => bif decide (p < mask) then (bif (bits .andNot .i64 p mask == 0) then p :: partsFrom mask k (p + 1) else partsFrom mask k (p + 1)) else []

def parts (mask : Int) : List Int := partsFrom mask mask.toNat 1

theorem partsFrom_mem {mask : Int} : ∀ {k : Nat} {p y : Int}, y ∈ partsFrom mask k p → p ≤ y ∧ y < mask ∧ bits .andNot .i64 y mask = 0 := by
 intro k
 induction k with
 | zero => intro p y h; cases h
 | succ k ih =>
  intro p y h; unfold partsFrom at h; by_cases hlt : p < mask
  ·
   rw [decide_eq_true hlt, cond_true] at h; by_cases hb : bits .andNot .i64 p mask = 0
   ·
    rw [beq_iff_eq.2 hb, cond_true] at h; rcases List.mem_cons.1 h with rfl | h
    · exact ⟨Int.le_refl _, hlt, hb⟩
    · have := ih h; exact ⟨by omega, this.2⟩
   · rw [beq_false_of_ne hb, cond_false] at h; have := ih h; exact ⟨by omega, this.2⟩
  · rw [decide_eq_false hlt, cond_false] at h; cases h

theorem parts_mem {mask y : Int} (h : y ∈ parts mask) : 1 ≤ y ∧ y < mask ∧ bits .andNot .i64 y mask = 0 := partsFrom_mem h

end
end Go.Proofs.Ytgbapklfgjnggaa


namespace Go.Proofs.Ytgbapklfgjnggaa
open Go Go.Am
open Go.Am.AW (seq r1U ret kpU cdE r0U r1 meet block bk exit lpB kp cutQ d0U d1U)
open List (length getD set replicate drop)
noncomputable section

def CB (c : List Int) : Prop := ∀ j : Nat, 0 ≤ c.getD j 0 ∧ c.getD j 0 ≤ 1000000000000000 * ((j - 1 : Nat) : Int)

theorem part_facts : ∀ m p : Fin 32, 1 ≤ p.val → p.val < m.val → bits .andNot .i64 (p.val : Int) (m.val : Int) = 0 → 1 ≤ bits .andNot .i64 (m.val : Int) (p.val : Int) ∧ (p.val : Int) + bits .andNot .i64 (m.val : Int) (p.val : Int) = (m.val : Int) := by decide +kernel

theorem part_rest {m p : Int} (hm : m < 32) (h : 1 ≤ p ∧ p < m ∧ bits .andNot .i64 p m = 0) : 1 ≤ bits .andNot .i64 m p ∧ p + bits .andNot .i64 m p = m := by
 obtain ⟨m', rfl⟩ := Int.eq_ofNat_of_zero_le (show 0 ≤ m by omega); obtain ⟨p', rfl⟩ := Int.eq_ofNat_of_zero_le (show 0 ≤ p by omega); exact part_facts ⟨m', by omega⟩ ⟨p', by omega⟩ (by show 1 ≤ p'; omega) (by show p' < m'; omega) h.2.2

theorem CB.set {c : List Int} (h : CB c) {i : Nat} {v : Int} (h0 : 0 ≤ v) (h1 : v ≤ 1000000000000000 * ((i - 1 : Nat) : Int)) : CB (set c i v) := by
 intro j; rw [List.getD_eq_getElem?_getD, List.getElem?_set]; split
 ·
  rename_i e; subst e; split
  · exact ⟨h0, h1⟩
  · simp; omega
 ·
  have := h j
  rwa [List.getD_eq_getElem?_getD] at this

theorem CB.zero (n : Nat) : CB (replicate n 0) := by
 intro j; rw [List.getD_eq_getElem?_getD, List.getElem?_replicate]; split <;> simp <;> omega

end
end Go.Proofs.Ytgbapklfgjnggaa


namespace Go.Proofs.Ytgbapklfgjnggaa
open Go Go.Am
open List (getD set replicate)

def sumAt (c : List Int) (mask : Nat) (v : Int) : Int := getD c v.toNat 0 + getD c (mask - v.toNat) 0

def mn (c : List Int) (mask : Nat) : List Int → Int × Int → Int × Int
 | [], b => b
 | v :: l, b => mn c mask l (bif (bif decide (b.1 < 0) then true else decide (sumAt c mask v < b.1)) then (sumAt c mask v, v) else b)

def val (g : Graph) (mask : Nat) (b : Int × Int) : Int := bif decide (b.1 < 0) then 0 else b.1 + subsetSize g (mask : Int)

def Part (mask : Nat) (v : Int) : Prop := 1 ≤ v ∧ v < (mask : Int) ∧ bits .andNot .i64 v (mask : Int) = 0

theorem mn_congr {c c' : List Int} {mask : Nat} : ∀ (l : List Int) (b : Int × Int), (∀ v ∈ l, sumAt c mask v = sumAt c' mask v) → mn c mask l b = mn c' mask l b := by
 intro l
 induction l with
 | nil => intro b _; rfl
 | cons v l ih =>
  intro b hl; show mn c mask l _ = mn c' mask l _; rw [hl v (List.mem_cons_self ..)]; exact ih _ (fun x hx => hl x (List.mem_cons_of_mem _ hx))

theorem getD_set_ne (c : List Int) {i j : Nat} (x : Int) (h : i ≠ j) : getD (set c i x) j 0 = getD c j 0 := by
 simp only [List.getD_eq_getElem?_getD, List.getElem?_set]; rw [if_neg h]

theorem getD_set_eq (c : List Int) {i : Nat} (x : Int) (h : i < c.length) : getD (set c i x) i 0 = x := by
 simp only [List.getD_eq_getElem?_getD, List.getElem?_set]; simp [h]

theorem Part.rest {mask : Nat} (hm : mask < 32) {v : Int} (h : Part mask v) : 1 ≤ v ∧ v < (mask : Int) ∧ Int.toNat (bits .andNot .i64 (mask : Int) v) = mask - v.toNat := by
 have := part_rest (m := (mask : Int)) (p := v) (by omega) h; have h1 := h.1; have h2 := h.2.1; exact ⟨h1, h2, by omega⟩

def best (c : List Int) (mask : Nat) : Int × Int := mn c mask (parts (mask : Int)) (-1, 0)

theorem parts_part {mask : Nat} {v : Int} (h : v ∈ parts (mask : Int)) : Part mask v := parts_mem h

theorem best_congr {c c' : List Int} {mask : Nat} (h : ∀ j : Nat, j < mask → getD c j 0 = getD c' j 0) : best c mask = best c' mask := by
 refine mn_congr _ _ fun v hv => ?_; have := parts_part hv; have h1 := this.1; have h2 := this.2.1; unfold sumAt; rw [h v.toNat (by omega), h (mask - v.toNat) (by omega)]

structure Right (g : Graph) (c : List Int) (M : Nat) : Prop where
 nn : ∀ j : Nat, 0 ≤ getD c j 0
 zero : getD c 0 0 = 0
 eq : ∀ m : Nat, 1 ≤ m → m < M → getD c m 0 = val g m (best c m)
 above : ∀ m : Nat, M ≤ m → getD c m 0 = 0

theorem val_nn {g : Graph} (hV : VG g) {mask : Nat} (hm : mask < 32) (b : Int × Int) : 0 ≤ val g mask b := by
 have := sSize_b hV (m := (mask : Int)) (by omega) (by omega); unfold val; by_cases h : b.1 < 0
 · rw [decide_eq_true h]; exact Int.le_refl _
 · rw [decide_eq_false h]; show 0 ≤ b.1 + _; omega

theorem Right.step {g : Graph} (hV : VG g) {c : List Int} {M : Nat} (h : Right g c M) (hM : M < 32) (h1 : 1 ≤ M) (hl : M < c.length) : Right g (set c M (val g M (best c M))) (M + 1) := by
 have e : ∀ m : Nat, m ≤ M → best (set c M (val g M (best c M))) m = best c m := fun m hm => best_congr fun j hj => getD_set_ne c _ (by omega); refine ⟨fun j => ?_, ?_, fun m hm1 hm2 => ?_, fun m hm => ?_⟩
 ·
  by_cases hj : M = j
  · subst hj; rw [getD_set_eq c _ hl]; exact val_nn hV hM _
  · rw [getD_set_ne c _ hj]; exact h.nn j
 · rw [getD_set_ne c _ (by omega)]; exact h.zero
 ·
  rw [e m (by omega)]; by_cases hj : M = m
  · subst hj; rw [getD_set_eq c _ hl]
  · rw [getD_set_ne c _ hj]; exact h.eq m hm1 (by omega)
 · rw [getD_set_ne c _ (by omega)]; exact h.above m (by omega)

theorem Right.one {g : Graph} {n : Nat} : Right g (replicate n 0) 1 := by
 have : ∀ j : Nat, getD (replicate n (0 : Int)) j 0 = 0 := by
  intro j; rw [List.getD_eq_getElem?_getD, List.getElem?_replicate]; split <;> rfl
 exact ⟨fun j => by rw [this]; exact Int.le_refl _, this 0, fun m h1 h2 => by omega, fun m _ => this m⟩

theorem set_same {c : List Int} {m : Nat} (h : m < c.length) {x : Int} (e : getD c m 0 = x) : set c m x = c := by
 subst e; rw [List.getD_eq_getElem?_getD, List.getElem?_eq_getElem h]; simp

structure Firsts (c f : List Int) (M : Nat) : Prop where
 zero : getD f 0 0 = 0
 eq : ∀ m : Nat, 1 ≤ m → m < M → getD f m 0 = (best c m).2
 above : ∀ m : Nat, M ≤ m → getD f m 0 = 0

end Go.Proofs.Ytgbapklfgjnggaa


namespace Go.Proofs.Ytgbapklfgjnggaa
open Go Go.Am
open Go.Am.AW (seq r1U ret kpU cdE r0U r1 meet block rS bk exit lpB r0 kp d0U)
open List (length getD)
noncomputable section

structure FO (f : List Int) : Prop where
 le : f.length ≤ 32
 part : ∀ m : Nat, m < f.length → getD f m 0 = 0 ∨ Part m (getD f m 0)

theorem FO.at {f : List Int} (h : FO f) {m : Int} (h0 : 0 ≤ m) (hm : m < (f.length : Int)) (hz : getD f (Int.toNat m) 0 ≠ 0) :
  (1 ≤ getD f (Int.toNat m) 0 ∧ getD f (Int.toNat m) 0 < m) ∧ 1 ≤ bits .andNot .i64 m (getD f (Int.toNat m) 0) ∧ bits .andNot .i64 m (getD f (Int.toNat m) 0) < m := by
 have hl := h.le; have hp := (h.part (Int.toNat m) (by omega)).resolve_left hz; have hm' : ((Int.toNat m : Nat) : Int) = m := by omega
 have hp' : 1 ≤ getD f (Int.toNat m) 0 ∧ getD f (Int.toNat m) 0 < m ∧ bits .andNot .i64 (getD f (Int.toNat m) 0) m = 0 := by
  have := hp
  unfold Part at this
  rwa [hm'] at this
 have hr := part_rest (m := m) (p := getD f (Int.toNat m) 0) (by omega) hp'; have h1 := hp.1; have h2 := hp.2.1; omega

end
end Go.Proofs.Ytgbapklfgjnggaa


namespace Go.Proofs.Ytgbapklfgjnggaa
open Go Go.Am
open Go.Am.AW (seq r1U ret kpU cdE r0U r1 rS d0U)
open List (length getD set)
noncomputable section

def Sm (l : List Int) (B : Int) : Prop := l.length ≤ 32 ∧ ∀ j : Nat, -B ≤ getD l j 0 ∧ getD l j 0 ≤ B

theorem Sm.set {l : List Int} {B : Int} (h : Sm l B) {i : Nat} {v : Int} (h0 : -B ≤ v) (h1 : v ≤ B) : Sm (set l i v) B := by
 refine ⟨by rw [List.length_set]; exact h.1, fun j => ?_⟩; rw [List.getD_eq_getElem?_getD, List.getElem?_set]; have := h.2 j
 rw [List.getD_eq_getElem?_getD] at this
 split
 ·
  split
  · exact ⟨h0, h1⟩
  · simp; omega
 · exact this

theorem Sm.mono {l : List Int} {B C : Int} (h : Sm l B) (hB : B ≤ C) : Sm l C := ⟨h.1, fun j => by have := h.2 j; omega⟩

end
end Go.Proofs.Ytgbapklfgjnggaa
