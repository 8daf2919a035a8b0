/-
  A part of the proof of this claim (AjZ): what functions of the program compute, and plain facts of that. No conditions.
-/
import Derived.Test.YtpoohhjlpepmfaaAjY
import Derived.Test.YtpoohhjlpepmfaaAjO
set_option linter.all false
namespace Go.Proofs.Ytpoohhjlpepmfaa
open Go Go.Am

theorem bneF {a b : Int} (h : a = b) : (a != b) = false := by subst h; exact bne_self_eq_false _
theorem bneT {a b : Int} (h : a ≠ b) : (a != b) = true := bne_iff_ne.2 h

theorem equalInts_l0_iff (a b : List Int) (hl : a.length = b.length) : ∀ (k i : Nat), a.length - i < k →
  (equalInts_l0 a b k i = .inl () ∧ ∀ j, i ≤ j → List.getD a j 0 = List.getD b j 0) ∨ (equalInts_l0 a b k i = .inr false ∧ ∃ j, List.getD a j 0 ≠ List.getD b j 0) := by
 intro k
 induction k with
 | zero => intro i h; omega
 | succ k ih =>
  intro i h
  unfold equalInts_l0
  by_cases hi : ((i : Nat) : Int) < ((List.length a : Nat) : Int)
  ·
   rw [decide_eq_true hi, cond_true]
   by_cases e : List.getD a i 0 = List.getD b i 0
   ·
    rw [bneF e, cond_false]
    rcases ih (i + 1) (by omega) with ⟨h1, h2⟩ | h
    ·
     refine .inl ⟨h1, fun j hj => ?_⟩
     by_cases hji : j = i
     ·
      subst hji; exact e
     ·
      exact h2 j (by omega)
    ·
     exact .inr h
   ·
    rw [bneT e, cond_true]
    exact .inr ⟨rfl, i, e⟩
  ·
   rw [decide_eq_false hi, cond_false]
   exact .inl ⟨rfl, fun j hj => by rw [getD_out (by omega), getD_out (by omega)]⟩

theorem ext_getD {a b : List Int} (hl : a.length = b.length) (h : ∀ j, List.getD a j 0 = List.getD b j 0) : a = b := by
 apply List.ext_getElem?
 intro i
 by_cases hi : i < a.length
 ·
  have := h i
  rw [List.getD_eq_getElem?_getD, List.getD_eq_getElem?_getD, List.getElem?_eq_getElem hi, List.getElem?_eq_getElem (by omega)] at this
  rw [List.getElem?_eq_getElem hi, List.getElem?_eq_getElem (by omega)]
  simpa using this
 ·
  rw [List.getElem?_eq_none (by omega), List.getElem?_eq_none (by omega)]

theorem equalInts_iff {a b : List Int} : equalInts a b = true ↔ a = b := by
 unfold equalInts
 by_cases hl : a.length = b.length
 ·
  rw [show (((List.length a : Nat) : Int) != ((List.length b : Nat) : Int)) = false by simp [bne, hl], cond_false]
  rcases equalInts_l0_iff a b hl (a.length - 0 + 1) 0 (by omega) with ⟨h1, h2⟩ | ⟨h1, j, h2⟩
  ·
   rw [h1]
   exact ⟨fun _ => ext_getD hl fun j => h2 j (Nat.zero_le _), fun _ => rfl⟩
  ·
   rw [h1]
   exact ⟨fun h => by simp at h, fun h => absurd (by rw [h]) h2⟩
 ·
  rw [show (((List.length a : Nat) : Int) != ((List.length b : Nat) : Int)) = true by simp [bne]; omega, cond_true]
  exact ⟨fun h => (by cases h), fun h => absurd (by rw [h]) hl⟩

/-! the check -/

theorem chk_inner {g : Graph} {c : List Int} {mask : Nat} {R : Int} (hR : IntKind.wrap .i64 (List.getD c mask 0 - gSize g (mask : Int)) = R) : ∀ (l : List Int) (r : Bool),
  (∀ v ∈ l, IntKind.wrap .i64 (List.getD c (Int.toNat v) 0 + List.getD c (Int.toNat (bits .andNot .i64 (mask : Int) v)) 0) = sumAt c mask v) →
  (iCheckCosts_l1 g c mask l r = .inr false ∧ ∃ v ∈ l, sumAt c mask v < R) ∨ (∃ r', iCheckCosts_l1 g c mask l r = .inl r' ∧ (∀ v ∈ l, R ≤ sumAt c mask v) ∧ (r' = true ↔ r = true ∨ ∃ v ∈ l, R = sumAt c mask v)) := by
 intro l
 induction l with
 | nil => intro r _; exact .inr ⟨r, rfl, fun v hv => (by cases hv), fun h => .inl h, fun h => h.elim id (fun ⟨v, hv, _⟩ => by cases hv)⟩
 | cons v l ih =>
  intro r hs
  unfold iCheckCosts_l1
  rw [hR, hs v (List.mem_cons_self ..)]
  by_cases h : sumAt c mask v < R
  ·
   rw [decide_eq_true h, cond_true]
   exact .inl ⟨rfl, v, List.mem_cons_self .., h⟩
  ·
   rw [decide_eq_false h, cond_false]
   rcases ih (bif r then true else (R == sumAt c mask v)) (fun x hx => hs x (List.mem_cons_of_mem _ hx)) with ⟨h1, x, hx, h2⟩ | ⟨r', h1, h2, h3⟩
   ·
    exact .inl ⟨h1, x, List.mem_cons_of_mem _ hx, h2⟩
   ·
    refine .inr ⟨r', h1, fun x hx => (List.mem_cons.1 hx).elim (fun e => by subst e; omega) (h2 x), h3.trans ⟨fun hh => ?_, fun hh => ?_⟩⟩
    ·
     rcases hh with hh | ⟨x, hx, e⟩
     ·
      cases r with
      | true => exact .inl rfl
      | false =>
       rw [cond_false] at hh
       exact .inr ⟨v, List.mem_cons_self .., beq_iff_eq.1 hh⟩
     ·
      exact .inr ⟨x, List.mem_cons_of_mem _ hx, e⟩
    ·
     rcases hh with hh | ⟨x, hx, e⟩
     ·
      rw [hh]; exact .inl rfl
     ·
      rcases List.mem_cons.1 hx with e' | hx
      ·
       subst e'
       left
       rw [beq_iff_eq.2 e]
       cases r <;> rfl
      ·
       exact .inr ⟨x, hx, e⟩

theorem chk_loop {g : Graph} (hV : VG g) {c : List Int} (hl : ((List.length c : Nat) : Int) = gAll g + 1) (hc : ∀ j, -1000000000000000000 ≤ List.getD c j 0 ∧ List.getD c j 0 ≤ 1000000000000000000) :
  ∀ (k mask : Nat), 1 ≤ mask → Int.toNat (gAll g + 1 - (mask : Int)) < k → (∀ j : Nat, j < mask → List.getD c j 0 = List.getD (bestCosts g).1 j 0) →
  (iCheckCosts_l0 g c k mask = .inl () ∧ ∀ j : Nat, List.getD c j 0 = List.getD (bestCosts g).1 j 0) ∨ (iCheckCosts_l0 g c k mask = .inr false ∧ ∃ j : Nat, List.getD c j 0 ≠ List.getD (bestCosts g).1 j 0) := by
 have hA := gAll_b hV
 obtain ⟨hbl, _, hR, _⟩ := impl_best hV
 intro k
 induction k with
 | zero => intro mask _ h; omega
 | succ k ih =>
  intro mask h1 hk hag
  unfold iCheckCosts_l0
  by_cases hlt : ((mask : Nat) : Int) ≤ gAll g
  ·
   rw [decide_eq_true hlt, cond_true, parts_pow' (by omega)]
   have hm32 : mask < 32 := by omega
   have hval := hR.eq mask h1 (by omega)
   have hbc : best (bestCosts g).1 mask = best c mask := best_congr fun j hj => (hag j hj).symm
   rw [hbc] at hval
   have hnn : ∀ j : Nat, j < mask → 0 ≤ List.getD c j 0 := fun j hj => by rw [hag j hj]; exact hR.nn j
   have step : List.getD c mask 0 = List.getD (bestCosts g).1 mask 0 → ∀ j : Nat, j < mask + 1 → List.getD c j 0 = List.getD (bestCosts g).1 j 0 := fun e j hj => by
    by_cases hjm : j = mask
    ·
     subst hjm; exact e
    ·
     exact hag j (by omega)
   by_cases hp : parts (mask : Int) = []
   ·
    rw [decide_eq_true hp, cond_true]
    have hz : List.getD (bestCosts g).1 mask 0 = 0 := by
     rw [hval]; unfold best; rw [hp]; rfl
    by_cases hc0 : List.getD c mask 0 = 0
    ·
     rw [bneF hc0, cond_false]
     exact ih (mask + 1) (by omega) (by omega) (step (by rw [hc0, hz]))
    ·
     rw [bneT hc0, cond_true]
     exact .inr ⟨rfl, mask, by rw [hz]; exact hc0⟩
   ·
    rw [decide_eq_false hp, cond_false]
    have hsz := sSize_b hV (m := (mask : Int)) (by omega) (by omega)
    have hsize : gSize g (mask : Int) = subsetSize g (mask : Int) := size_eq hV (by omega) (by omega)
    have hcm := hc mask
    have hRR : IntKind.wrap .i64 (List.getD c mask 0 - gSize g (mask : Int)) = List.getD c mask 0 - subsetSize g (mask : Int) := by
     rw [hsize, IntKind.wrap_i64]; omega
    have hsum : ∀ v ∈ parts (mask : Int), IntKind.wrap .i64 (List.getD c (Int.toNat v) 0 + List.getD c (Int.toNat (bits .andNot .i64 (mask : Int) v)) 0) = sumAt c mask v := fun v hv => by
     have hp := (parts_part hv).rest hm32
     have a := hc v.toNat
     have b := hc (mask - v.toNat)
     rw [hp.2.2]
     unfold sumAt
     rw [IntKind.wrap_i64]
     omega
    have hs0 : ∀ v ∈ parts (mask : Int), 0 ≤ sumAt c mask v := fun v hv => by
     have hp := parts_part hv
     have p1 := hp.1
     have p2 := hp.2.1
     have a := hnn v.toNat (by omega)
     have b := hnn (mask - v.toNat) (by omega)
     unfold sumAt
     omega
    have hle := mn_le (c := c) (mask := mask) (parts (mask : Int)) (-1, 0) hs0
    have hb0 := hle.2.2 (.inr hp)
    have hmem := (mn_mem (c := c) (mask := mask) (parts (mask : Int)) (-1, 0)).resolve_left (fun h => by rw [h] at hb0; exact absurd hb0 (by decide))
    have hv : List.getD (bestCosts g).1 mask 0 = (best c mask).1 + subsetSize g (mask : Int) := by
     rw [hval]; unfold val
     rw [show decide ((best c mask).1 < 0) = false from decide_eq_false (by unfold best; omega), cond_false]
    unfold best at hv
    rcases chk_inner hRR (parts (mask : Int)) false hsum with ⟨e1, x, hx, e2⟩ | ⟨r', e1, e2, e3⟩
    ·
     rw [e1]
     refine .inr ⟨rfl, mask, fun e => ?_⟩
     have := hle.2.1 x hx
     omega
    ·
     rw [e1]
     simp only [Sum.elim_inl]
     cases r' with
     | false =>
      refine .inr ⟨rfl, mask, fun e => ?_⟩
      have := e3.2 (.inr ⟨_, hmem.1, by rw [← hmem.2]; omega⟩)
      cases this
     | true =>
      rw [Bool.not_true, cond_false]
      rcases e3.1 rfl with h | ⟨x, hx, e⟩
      ·
       cases h
      ·
       refine ih (mask + 1) (by omega) (by omega) (step ?_)
       have a := hle.2.1 x hx
       have b := e2 _ hmem.1
       omega
  ·
   rw [decide_eq_false hlt, cond_false]
   refine .inl ⟨rfl, fun j => ?_⟩
   by_cases hj : j < mask
   ·
    exact hag j hj
   ·
    rw [getD_out (by omega), getD_out (by omega)]

theorem check_iff {g : Graph} (hV : VG g) {c : List Int} (hc : ∀ j, -1000000000000000000 ≤ List.getD c j 0 ∧ List.getD c j 0 ≤ 1000000000000000000) : iCheckCosts g c = true ↔ c = (bestCosts g).1 := by
 have hA := gAll_b hV
 obtain ⟨hbl, _, hR, _⟩ := impl_best hV
 unfold iCheckCosts
 rw [ValidGraph_iff.2 hV]
 simp only [Bool.not_true, cond_false]
 by_cases hl : ((List.length c : Nat) : Int) = gAll g + 1
 ·
  rw [show (((List.length c : Nat) : Int) != (gAll g) + 1) = false by simp [bne, hl], cond_false]
  by_cases h0 : List.getD c 0 0 = 0
  ·
   rw [bneF h0, cond_false]
   rcases chk_loop hV hl hc (Int.toNat (gAll g + 1 - (1 : Int)) + 1) 1 (Nat.le_refl _) (by show Int.toNat (gAll g + 1 - ((1 : Nat) : Int)) < _; omega) (fun j hj => by
     obtain rfl : j = 0 := by omega
     rw [h0, hR.zero]) with ⟨h1, h2⟩ | ⟨h1, j, h2⟩
   ·
    rw [h1]
    exact ⟨fun _ => ext_getD (by omega) h2, fun _ => rfl⟩
   ·
    rw [h1]
    exact ⟨fun h => by simp at h, fun h => absurd (by rw [h]) h2⟩
  ·
   rw [bneT h0, cond_true]
   exact ⟨fun h => (by cases h), fun h => absurd (by rw [h]; exact hR.zero) h0⟩
 ·
  rw [show (((List.length c : Nat) : Int) != (gAll g) + 1) = true by simpa [bne] using hl, cond_true]
  exact ⟨fun h => (by cases h), fun h => absurd (by rw [h]; omega) hl⟩

/-! the draw -/

theorem draw_loop (code : List Int) : ∀ (k mask : Nat) (r1 : Int) (costs : List Int), mask ≤ 32 → Sm costs (31000000000000000 + (mask : Int)) → Sm (DrawCheckCosts_l0 code k mask r1 costs) 31000000000000032 := by
 intro k
 induction k with
 | zero => intro mask r1 costs hm h; exact h.mono (by omega)
 | succ k ih =>
  intro mask r1 costs hm h
  have hl := h.1
  unfold DrawCheckCosts_l0
  by_cases hi : ((mask : Nat) : Int) < ((List.length costs : Nat) : Int)
  ·
   rw [decide_eq_true hi, cond_true, cond_true]
   cases pick (Rdr.b ((anyGraph (newReader code)).2)) r1 3 == 0 with
   | false => exact h.mono (by omega)
   | true =>
    rw [cond_true]
    have hj := h.2 mask
    cases decide (0 < List.getD costs mask 0) with
    | true => exact ih _ _ _ (by omega) ((h.mono (by omega)).set (by omega) (by omega))
    | false => exact ih _ _ _ (by omega) (h.mono (by omega))
  ·
   rw [decide_eq_false hi, cond_false]
   exact h.mono (by omega)

theorem draw_Sm (code : List Int) : Sm (DrawCheckCosts code).2 31000000000000032 := by
 have hS := best_Sm (anyGraph (newReader code)).1
 unfold DrawCheckCosts
 simp only [List.nil_append]
 cases pick (Rdr.b ((anyGraph (newReader code)).2)) (Rdr.p ((anyGraph (newReader code)).2)) 4 == 0 with
 | true =>
  rw [cond_true]
  by_cases h : 0 < ((List.length (BestCosts ((anyGraph (newReader code)).1)) : Nat) : Int)
  ·
   rw [decide_eq_true h, cond_true]
   have h1 := hS.2 (Int.toNat (pick (Rdr.b ((anyGraph (newReader code)).2)) ((Rdr.p ((anyGraph (newReader code)).2)) + 1) ((List.length (BestCosts ((anyGraph (newReader code)).1)) : Nat) : Int)))
   have h2 := one_mem (anyGraph (newReader code)).2.b ((Rdr.p ((anyGraph (newReader code)).2)) + 1 + 1) (l := ([1, (-1), 5] : List Int)) (by decide)
   simp only [List.mem_cons, List.not_mem_nil, or_false] at h2
   exact (hS.mono (by omega)).set (by omega) (by omega)
  ·
   rw [decide_eq_false h, cond_false]
   exact hS.mono (by omega)
 | false =>
  rw [cond_false]
  cases pick (Rdr.b ((anyGraph (newReader code)).2)) (Rdr.p ((anyGraph (newReader code)).2)) 4 == 1 with
  | true => exact draw_loop code _ _ _ _ (by omega) (hS.mono (by omega))
  | false => exact hS.mono (by omega)

theorem FnCheckCosts_law (code : List Int) : FnCheckCosts code = true := by
 have hS := draw_Sm code
 unfold FnCheckCosts
 simp only [← CheckCosts_same]
 generalize (DrawCheckCosts code).1 = g at *
 generalize (DrawCheckCosts code).2 = c at *
 cases decide (1048576 < ((List.length code : Nat) : Int)) with
 | true => rfl
 | false =>
  rw [cond_false]
  simp only [bne_self_eq_false, cond_false, beq_self_eq_true]
  cases hv : ValidGraph g with
  | false => rfl
  | true =>
   have hV := ValidGraph_iff.1 hv
   rw [Bool.not_true, cond_false]
   have hb : iBestCosts g = (bestCosts g).1 := by
    unfold iBestCosts
    rw [hv]
    rfl
   have hbest : ∀ j, -1000000000000000000 ≤ List.getD (bestCosts g).1 j 0 ∧ List.getD (bestCosts g).1 j 0 ≤ 1000000000000000000 := fun j => by
    have hA := gAll_b hV
    have h := impl_best hV
    have := CB_of (h.2.2.1.cb hV (by omega)) (by omega) j
    omega
   have e1 : iCheckCosts g c = equalInts c (iBestCosts g) := by
    rw [Bool.eq_iff_iff, equalInts_iff, hb]
    exact check_iff hV fun j => by have := hS.2 j; omega
   rw [e1, beq_self_eq_true, cond_true, hb]
   exact (check_iff hV hbest).2 rfl

theorem iBest_same (g : Graph) : iBestCosts g = BestCosts g := by
 unfold iBestCosts BestCosts
 rw [vg_eq]
 cases hv : ValidGraph g with
 | false => rfl
 | true => exact (best_same (ValidGraph_iff.1 hv)).symm

end Go.Proofs.Ytpoohhjlpepmfaa
