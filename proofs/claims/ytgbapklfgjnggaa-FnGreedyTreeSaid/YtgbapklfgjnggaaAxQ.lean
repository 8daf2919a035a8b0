/-
  A part of the proof of this claim (AxQ): what functions of the program compute, and plain facts of that. No conditions.
-/
import Derived.Test.YtgbapklfgjnggaaAxJ
set_option linter.all false
namespace Go.Proofs.Ytgbapklfgjnggaa
open Go Go.Am

def sumAt (c : List Int) (mask : Nat) (v : Int) : Int := List.getD c v.toNat 0 + List.getD c (mask - v.toNat) 0

def mn (c : List Int) (mask : Nat) : List Int → Int × Int → Int × Int
 | [], b => b
 | v :: l, b => mn c mask l (bif (bif decide (b.1 < 0) then true else decide (sumAt c mask v < b.1)) then (sumAt c mask v, v) else b)

def val (g : Graph) (mask : Nat) (b : Int × Int) : Int := bif decide (b.1 < 0) then 0 else b.1 + subsetSize g (mask : Int)

def Part (mask : Nat) (v : Int) : Prop := 1 ≤ v ∧ v < (mask : Int) ∧ bits .andNot .i64 v (mask : Int) = 0

def Ok (b : Int × Int) : Prop := (b.1 = -1 ∧ b.2 = 0) ∨ (0 ≤ b.1 ∧ b.2 ≠ 0)

theorem mn_congr {c c' : List Int} {mask : Nat} : ∀ (l : List Int) (b : Int × Int), (∀ v ∈ l, sumAt c mask v = sumAt c' mask v) → mn c mask l b = mn c' mask l b := by
 intro l
 induction l with
 | nil => intro b _; rfl
 | cons v l ih =>
  intro b hl
  show mn c mask l _ = mn c' mask l _
  rw [hl v (List.mem_cons_self ..)]
  exact ih _ (fun x hx => hl x (List.mem_cons_of_mem _ hx))

theorem getD_set_ne (c : List Int) {i j : Nat} (x : Int) (h : i ≠ j) : List.getD (List.set c i x) j 0 = List.getD c j 0 := by
 simp only [List.getD_eq_getElem?_getD, List.getElem?_set]
 rw [if_neg h]

theorem getD_set_eq (c : List Int) {i : Nat} (x : Int) (h : i < c.length) : List.getD (List.set c i x) i 0 = x := by
 simp only [List.getD_eq_getElem?_getD, List.getElem?_set]
 simp [h]

theorem Part.rest {mask : Nat} (hm : mask < 32) {v : Int} (h : Part mask v) : 1 ≤ v ∧ v < (mask : Int) ∧ Int.toNat (bits .andNot .i64 (mask : Int) v) = mask - v.toNat := by
 have := part_rest (m := (mask : Int)) (p := v) (by omega) h
 have h1 := h.1
 have h2 := h.2.1
 exact ⟨h1, h2, by omega⟩

theorem impl_inner {g : Graph} (hV : VG g) {mask : Nat} (hm : mask < 32) {c f : List Int} (hc : mask < c.length) (hf : mask < f.length) (h0 : ∀ j : Nat, 0 ≤ List.getD c j 0) :
  ∀ (l : List Int) (b : Int × Int), (∀ v ∈ l, Part mask v) → Ok b →
  bestCosts_l1 g mask l (List.set c mask (val g mask b)) (List.set f mask b.2) = (List.set c mask (val g mask (mn c mask l b)), List.set f mask (mn c mask l b).2) := by
 intro l
 induction l with
 | nil => intro b _ _; rfl
 | cons v l ih =>
  intro b hl hb
  have hp := (hl v (List.mem_cons_self ..)).rest hm
  have hl' : ∀ x ∈ l, Part mask x := fun x hx => hl x (List.mem_cons_of_mem _ hx)
  have e1 : List.getD (List.set c mask (val g mask b)) (Int.toNat v) 0 = List.getD c (Int.toNat v) 0 := getD_set_ne c _ (by omega)
  have e2 : List.getD (List.set c mask (val g mask b)) (mask - v.toNat) 0 = List.getD c (mask - v.toNat) 0 := getD_set_ne c _ (by omega)
  have hs : gSize g (mask : Int) = subsetSize g (mask : Int) := size_eq hV (by omega) (by omega)
  have hsum : gSize g (mask : Int) + List.getD c (Int.toNat v) 0 + List.getD c (mask - v.toNat) 0 = sumAt c mask v + subsetSize g (mask : Int) := by
   rw [hs]; unfold sumAt; omega
  have hn1 := h0 v.toNat
  have hn2 := h0 (mask - v.toNat)
  have hsn : 0 ≤ sumAt c mask v := by unfold sumAt; omega
  unfold bestCosts_l1
  rw [getD_set_eq f _ hf, getD_set_eq c _ hc, hp.2.2, e1, e2, hsum, List.set_set, List.set_set]
  show _ = (List.set c mask (val g mask (mn c mask l _)), List.set f mask (mn c mask l _).2)
  have hv : val g mask (sumAt c mask v, v) = sumAt c mask v + subsetSize g (mask : Int) := by
   unfold val
   rw [show decide ((sumAt c mask v, v).1 < 0) = false from decide_eq_false (by show ¬ sumAt c mask v < 0; omega), cond_false]
  have hok : Ok (sumAt c mask v, v) := .inr ⟨hsn, by show v ≠ 0; omega⟩
  have hnew := ih (sumAt c mask v, v) hl' hok
  rw [hv] at hnew
  rcases hb with ⟨hb1, hb2⟩ | ⟨hb1, hb2⟩
  ·
   rw [hb2, show ((0 : Int) == 0) = true from rfl, cond_true, cond_true, show decide (b.1 < 0) = true from decide_eq_true (by omega), cond_true, cond_true]
   exact hnew
  ·
   rw [show (b.2 == 0) = false by simp [hb2], cond_false, show decide (b.1 < 0) = false from decide_eq_false (by omega), cond_false]
   have hvb : val g mask b = b.1 + subsetSize g (mask : Int) := by
    unfold val
    rw [show decide (b.1 < 0) = false from decide_eq_false (by omega), cond_false]
   rw [hvb, show decide (sumAt c mask v + subsetSize g (mask : Int) < b.1 + subsetSize g (mask : Int)) = decide (sumAt c mask v < b.1) from decide_eq_decide.2 (by omega)]
   cases decide (sumAt c mask v < b.1) with
   | true => exact hnew
   | false =>
    rw [cond_false, cond_false]
    have := ih b hl' (.inr ⟨hb1, hb2⟩)
    rw [hvb] at this
    exact this

def best (c : List Int) (mask : Nat) : Int × Int := mn c mask (parts (mask : Int)) (-1, 0)

theorem parts_part {mask : Nat} {v : Int} (h : v ∈ parts (mask : Int)) : Part mask v := parts_mem h

theorem best_congr {c c' : List Int} {mask : Nat} (h : ∀ j : Nat, j < mask → List.getD c j 0 = List.getD c' j 0) : best c mask = best c' mask := by
 refine mn_congr _ _ fun v hv => ?_
 have := parts_part hv
 have h1 := this.1
 have h2 := this.2.1
 unfold sumAt
 rw [h v.toNat (by omega), h (mask - v.toNat) (by omega)]

theorem mn_mem {c : List Int} {mask : Nat} : ∀ (l : List Int) (b : Int × Int), (mn c mask l b) = b ∨ ((mn c mask l b).2 ∈ l ∧ (mn c mask l b).1 = sumAt c mask (mn c mask l b).2) := by
 intro l
 induction l with
 | nil => intro b; exact .inl rfl
 | cons v l ih =>
  intro b
  show mn c mask l _ = b ∨ ((mn c mask l _).2 ∈ v :: l ∧ (mn c mask l _).1 = sumAt c mask (mn c mask l _).2)
  cases (bif decide (b.1 < 0) then true else decide (sumAt c mask v < b.1)) with
  | false =>
   rcases ih b with h | h
   ·
    exact .inl h
   ·
    exact .inr ⟨List.mem_cons_of_mem _ h.1, h.2⟩
  | true =>
   rcases ih (sumAt c mask v, v) with h | h
   ·
    rw [cond_true, h]
    exact .inr ⟨List.mem_cons_self .., rfl⟩
   ·
    exact .inr ⟨List.mem_cons_of_mem _ h.1, h.2⟩

theorem mn_le {c : List Int} {mask : Nat} : ∀ (l : List Int) (b : Int × Int), (∀ v ∈ l, 0 ≤ sumAt c mask v) → (0 ≤ b.1 → (mn c mask l b).1 ≤ b.1) ∧ (∀ v ∈ l, (mn c mask l b).1 ≤ sumAt c mask v) ∧ (0 ≤ b.1 ∨ l ≠ [] → 0 ≤ (mn c mask l b).1) := by
 intro l
 induction l with
 | nil => intro b _; exact ⟨fun _ => Int.le_refl _, ⟨fun v hv => (by cases hv), fun h => h.elim id (fun h => absurd rfl h)⟩⟩
 | cons v l ih =>
  intro b hn
  have h0 := hn v (List.mem_cons_self ..)
  unfold mn
  have ih := fun b => ih b (fun w hw => hn w (List.mem_cons_of_mem _ hw))
  by_cases h1 : b.1 < 0
  ·
   rw [decide_eq_true h1, cond_true, cond_true]
   obtain ⟨i1, i2, i3⟩ := ih (sumAt c mask v, v)
   exact ⟨fun h => by omega, fun w hw => (List.mem_cons.1 hw).elim (fun e => e ▸ i1 h0) (i2 w), fun _ => i3 (.inl h0)⟩
  ·
   rw [decide_eq_false h1, cond_false]
   by_cases h2 : sumAt c mask v < b.1
   ·
    rw [decide_eq_true h2, cond_true]
    obtain ⟨i1, i2, i3⟩ := ih (sumAt c mask v, v)
    have i1 := i1 h0
    simp only at i1
    exact ⟨fun h => by omega, fun w hw => (List.mem_cons.1 hw).elim (fun e => e ▸ i1) (i2 w), fun _ => i3 (.inl h0)⟩
   ·
    rw [decide_eq_false h2, cond_false]
    obtain ⟨i1, i2, i3⟩ := ih b
    have i1 := i1 (by omega)
    exact ⟨fun _ => i1, fun w hw => (List.mem_cons.1 hw).elim (fun e => by subst e; omega) (i2 w), fun _ => i3 (.inl (by omega))⟩

structure Right (g : Graph) (c : List Int) (M : Nat) : Prop where
 nn : ∀ j : Nat, 0 ≤ List.getD c j 0
 zero : List.getD c 0 0 = 0
 eq : ∀ m : Nat, 1 ≤ m → m < M → List.getD c m 0 = val g m (best c m)
 above : ∀ m : Nat, M ≤ m → List.getD c m 0 = 0

theorem val_nn {g : Graph} (hV : VG g) {mask : Nat} (hm : mask < 32) (b : Int × Int) : 0 ≤ val g mask b := by
 have := sSize_b hV (m := (mask : Int)) (by omega) (by omega)
 unfold val
 by_cases h : b.1 < 0
 ·
  rw [decide_eq_true h]; exact Int.le_refl _
 ·
  rw [decide_eq_false h]; show 0 ≤ b.1 + _; omega

theorem Right.step {g : Graph} (hV : VG g) {c : List Int} {M : Nat} (h : Right g c M) (hM : M < 32) (h1 : 1 ≤ M) (hl : M < c.length) : Right g (List.set c M (val g M (best c M))) (M + 1) := by
 have e : ∀ m : Nat, m ≤ M → best (List.set c M (val g M (best c M))) m = best c m := fun m hm => best_congr fun j hj => getD_set_ne c _ (by omega)
 refine ⟨fun j => ?_, ?_, fun m hm1 hm2 => ?_, fun m hm => ?_⟩
 ·
  by_cases hj : M = j
  ·
   subst hj
   rw [getD_set_eq c _ hl]
   exact val_nn hV hM _
  ·
   rw [getD_set_ne c _ hj]
   exact h.nn j
 ·
  rw [getD_set_ne c _ (by omega)]
  exact h.zero
 ·
  rw [e m (by omega)]
  by_cases hj : M = m
  ·
   subst hj
   rw [getD_set_eq c _ hl]
  ·
   rw [getD_set_ne c _ hj]
   exact h.eq m hm1 (by omega)
 ·
  rw [getD_set_ne c _ (by omega)]
  exact h.above m (by omega)

theorem Right.one {g : Graph} {n : Nat} : Right g (List.replicate n 0) 1 := by
 have : ∀ j : Nat, List.getD (List.replicate n (0 : Int)) j 0 = 0 := by
  intro j
  rw [List.getD_eq_getElem?_getD, List.getElem?_replicate]
  split <;> rfl
 exact ⟨fun j => by rw [this]; exact Int.le_refl _, this 0, fun m h1 h2 => by omega, fun m _ => this m⟩

theorem getD_out {c : List Int} {m : Nat} (h : c.length ≤ m) : List.getD c m 0 = 0 := by
 rw [List.getD_eq_getElem?_getD, List.getElem?_eq_none h]
 rfl

theorem set_same {c : List Int} {m : Nat} (h : m < c.length) {x : Int} (e : List.getD c m 0 = x) : List.set c m x = c := by
 subst e
 rw [List.getD_eq_getElem?_getD, List.getElem?_eq_getElem h]
 simp

structure Firsts (c f : List Int) (M : Nat) : Prop where
 zero : List.getD f 0 0 = 0
 eq : ∀ m : Nat, 1 ≤ m → m < M → List.getD f m 0 = (best c m).2
 above : ∀ m : Nat, M ≤ m → List.getD f m 0 = 0

theorem impl_loop {g : Graph} (hV : VG g) : ∀ (k mask : Nat) (c f : List Int), 1 ≤ mask → c.length = Int.toNat (gAll g + 1) → f.length = Int.toNat (gAll g + 1) → Int.toNat (gAll g + 1 - (mask : Int)) < k →
  Right g c mask → Firsts c f mask → ∃ c' f', bestCosts_l0 g k mask c f = (c', f') ∧ c'.length = Int.toNat (gAll g + 1) ∧ f'.length = Int.toNat (gAll g + 1) ∧ Right g c' (Int.toNat (gAll g + 1)) ∧ Firsts c' f' (Int.toNat (gAll g + 1)) := by
 have hA := gAll_b hV
 intro k
 induction k with
 | zero => intro mask c f _ _ _ h; omega
 | succ k ih =>
  intro mask c f h1 hc hf hk hr hF
  unfold bestCosts_l0
  by_cases hlt : ((mask : Nat) : Int) ≤ gAll g
  ·
   rw [decide_eq_true hlt, cond_true]
   have hs := set_same (c := c) (m := mask) (by omega) (x := val g mask (-1, 0)) (by rw [hr.above mask (Nat.le_refl _)]; rfl)
   have hs' := set_same (c := f) (m := mask) (by omega) (x := (((-1 : Int), (0 : Int))).2) (by rw [hF.above mask (Nat.le_refl _)])
   have hi := impl_inner hV (mask := mask) (by omega) (c := c) (f := f) (by omega) (by omega) hr.nn (parts (mask : Int)) (-1, 0) (fun v hv => parts_part hv) (.inl ⟨rfl, rfl⟩)
   rw [hs, hs'] at hi
   rw [hi]
   have hr' := hr.step hV (by omega) h1 (by omega)
   refine ih (mask + 1) _ _ (by omega) (by rw [List.length_set]; exact hc) (by rw [List.length_set]; exact hf) (by omega) hr' ⟨by rw [getD_set_ne f _ (by omega)]; exact hF.zero, fun m hm1 hm2 => ?_, fun m hm => ?_⟩
   ·
    rw [show best (List.set c mask (val g mask (mn c mask (parts (mask : Int)) (-1, 0)))) m = best c m from best_congr fun j hj => getD_set_ne c _ (by omega)]
    by_cases hj : mask = m
    ·
     subst hj
     rw [getD_set_eq f _ (by omega)]
     rfl
    ·
     rw [getD_set_ne f _ hj]
     exact hF.eq m hm1 (by omega)
   ·
    rw [getD_set_ne f _ (by omega)]
    exact hF.above m (by omega)
  ·
   rw [decide_eq_false hlt, cond_false]
   refine ⟨c, f, rfl, hc, hf, ?_, ?_⟩
   ·
    refine ⟨hr.nn, hr.zero, fun m h1 h2 => hr.eq m h1 (by omega), fun m h => getD_out (by omega)⟩
   ·
    exact ⟨hF.zero, fun m h1 h2 => hF.eq m h1 (by omega), fun m h => getD_out (by omega)⟩

theorem impl_best {g : Graph} (hV : VG g) : (bestCosts g).1.length = Int.toNat (gAll g + 1) ∧ (bestCosts g).2.length = Int.toNat (gAll g + 1) ∧ Right g (bestCosts g).1 (Int.toNat (gAll g + 1)) ∧ Firsts (bestCosts g).1 (bestCosts g).2 (Int.toNat (gAll g + 1)) := by
 have hA := gAll_b hV
 obtain ⟨c, f, e, h⟩ := impl_loop hV (Int.toNat (gAll g + 1 - (1 : Int)) + 1) 1 (List.replicate (Int.toNat ((gAll g) + 1)) 0 : List Int) (List.replicate (Int.toNat ((gAll g) + 1)) 0 : List Int) (Nat.le_refl _) (by simp) (by simp) (by simp) Right.one
  ⟨by rw [List.getD_eq_getElem?_getD, List.getElem?_replicate]; split <;> rfl, fun m h1 h2 => by omega, fun m _ => by rw [List.getD_eq_getElem?_getD, List.getElem?_replicate]; split <;> rfl⟩
 have : bestCosts g = (c, f) := by
  unfold bestCosts
  rw [e]
  rfl
 rw [this]
 exact h

end Go.Proofs.Ytgbapklfgjnggaa
