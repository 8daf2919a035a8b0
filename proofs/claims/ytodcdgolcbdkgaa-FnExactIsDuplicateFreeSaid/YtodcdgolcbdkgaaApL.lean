/-
  A part of the proof of this claim (ApL): what functions of the program compute, and plain facts of that. No conditions.
-/
import Derived.Test.YtodcdgolcbdkgaaApK
import Derived.Test.YtodcdgolcbdkgaaAnB
set_option linter.all false
namespace Go.Proofs.Ytodcdgolcbdkgaa
open Go Go.Am
noncomputable section

theorem columns_col {e : Xpr} (h : e.Kind = 1) : columns e = 1 * 2 ^ e.Col.toNat := by
 unfold columns columns_r
 rw [show (e.Kind == 1) = true from beq_iff_eq.2 h, cond_true]

theorem found_loop {p : Pln} {w : Nat} (hw : w ≤ 6) (hc : ∀ j, j < p.Exprs.length → (p.Exprs.getD j Xpr.zero).Kind = 1 → 0 ≤ (p.Exprs.getD j Xpr.zero).Col ∧ (p.Exprs.getD j Xpr.zero).Col < (w : Int)) :
  ∀ (k m i : Nat), p.Exprs.length - i < k → m < 2 ^ w → ∃ m' : Nat, idupFree_l1 p k (m : Int) i = (m' : Int) ∧ m' < 2 ^ w ∧
   ∀ c : Nat, m'.testBit c = true ↔ m.testBit c = true ∨ ∃ j, i ≤ j ∧ j < p.Exprs.length ∧ (p.Exprs.getD j Xpr.zero).Kind = 1 ∧ (p.Exprs.getD j Xpr.zero).Col = (c : Int) := by
 intro k
 induction k with
 | zero => intro m i h; omega
 | succ k ih =>
  intro m i h hm
  unfold idupFree_l1
  by_cases hi : i < p.Exprs.length
  ·
   rw [lt_dec hi, cond_true]
   simp only [Go.Am.andThen]
   unfold idupFree_j1
   by_cases hk : (p.Exprs.getD i Xpr.zero).Kind = 1
   ·
    rw [show ((p.Exprs.getD i Xpr.zero).Kind == 1) = true from beq_iff_eq.2 hk, cond_true, columns_col hk]
    have hci := hc i hi hk
    obtain ⟨c0, hc0⟩ := Int.eq_ofNat_of_zero_le hci.1
    have hp : 2 ^ c0 < 2 ^ w := Nat.pow_lt_pow_right (by decide) (by omega)
    have hq := Nat.two_pow_pos c0
    have h64 : 2 ^ w ≤ 2 ^ 6 := Nat.pow_le_pow_right (by decide) hw
    have e1 : (1 : Int) * 2 ^ (p.Exprs.getD i Xpr.zero).Col.toNat = ((2 ^ c0 : Nat) : Int) := by
     rw [hc0, Int.toNat_natCast, Int.one_mul, pow_cast]
    rw [e1, (bits62 (a := (m : Int)) (b := ((2 ^ c0 : Nat) : Int)) (by omega) (by omega) (by omega) (by omega)).2, Int.toNat_natCast, Int.toNat_natCast]
    obtain ⟨m', a1, a2, a3⟩ := ih (m ||| 2 ^ c0) (i + 1) (by omega) (Nat.or_lt_two_pow hm hp)
    refine ⟨m', a1, a2, fun c => ?_⟩
    rw [a3 c, Nat.testBit_or, Nat.testBit_two_pow, Bool.or_eq_true, decide_eq_true_eq]
    constructor
    ·
     rintro ((h | h) | ⟨j, h1, h2⟩)
     ·
      exact .inl h
     ·
      exact .inr ⟨i, Nat.le_refl _, hi, hk, by omega⟩
     ·
      exact .inr ⟨j, by omega, h2⟩
    ·
     rintro (h | ⟨j, h1, h2, h3, h4⟩)
     ·
      exact .inl (.inl h)
     ·
      rcases Nat.eq_or_lt_of_le h1 with rfl | h1
      ·
       exact .inl (.inr (by omega))
      ·
       exact .inr ⟨j, h1, h2, h3, h4⟩
   ·
    rw [show ((p.Exprs.getD i Xpr.zero).Kind == 1) = false from beq_false_of_ne hk, cond_false]
    obtain ⟨m', a1, a2, a3⟩ := ih m (i + 1) (by omega) hm
    refine ⟨m', a1, a2, fun c => ?_⟩
    rw [a3 c]
    constructor
    ·
     rintro (h | ⟨j, h1, h2⟩)
     ·
      exact .inl h
     ·
      exact .inr ⟨j, by omega, h2⟩
    ·
     rintro (h | ⟨j, h1, h2, h3, h4⟩)
     ·
      exact .inl h
     ·
      rcases Nat.eq_or_lt_of_le h1 with rfl | h1
      ·
       exact absurd h3 hk
      ·
       exact .inr ⟨j, h1, h2, h3, h4⟩
  ·
   rw [ge_dec hi, cond_false]
   refine ⟨m, rfl, hm, fun c => ⟨.inl, ?_⟩⟩
   rintro (h | ⟨j, h1, h2, _⟩)
   ·
    exact h
   ·
    omega

theorem keeps_l1 (list : List Xpr) (c : Nat) : ∀ (k i : Nat) (is : Bool), list.length - i < k → (keepsAll_l1 list c k is i = true ↔ is = true ∨ ∃ j, i ≤ j ∧ j < list.length ∧ (list.getD j Xpr.zero).Kind = 1 ∧ (list.getD j Xpr.zero).Col = (c : Int)) := by
 intro k
 induction k with
 | zero => intro i is h; omega
 | succ k ih =>
  intro i is h
  unfold keepsAll_l1
  by_cases hi : i < list.length
  ·
   rw [lt_dec hi, cond_true, ih _ _ (by omega)]
   constructor
   ·
    rintro (h | ⟨j, h1, h2⟩)
    ·
     rcases or_pos h with h | h
     ·
      exact .inl h
     ·
      have := and_pos h
      exact .inr ⟨i, Nat.le_refl _, hi, beq_pos this.1, beq_pos this.2⟩
    ·
     exact .inr ⟨j, by omega, h2⟩
   ·
    rintro (h | ⟨j, h1, h2, h3, h4⟩)
    ·
     rw [h]
     exact .inl rfl
    ·
     rcases Nat.eq_or_lt_of_le h1 with rfl | h1
     ·
      refine .inl ?_
      rw [beq_iff_eq.2 h3, beq_iff_eq.2 h4]
      cases is <;> rfl
     ·
      exact .inr ⟨j, h1, h2, h3, h4⟩
  ·
   rw [ge_dec hi, cond_false]
   exact ⟨.inl, fun h => by
    rcases h with h | ⟨j, h1, h2, _⟩
    ·
     exact h
    ·
     omega⟩

theorem keeps_iff (list : List Xpr) (w : Nat) : keepsAll list (w : Int) = true ↔ ∀ c, c < w → ∃ j, j < list.length ∧ (list.getD j Xpr.zero).Kind = 1 ∧ (list.getD j Xpr.zero).Col = (c : Int) := by
 have hc : ∀ c, keepsAll_l1 list c (list.length - 0 + 1) false 0 = true ↔ ∃ j, j < list.length ∧ (list.getD j Xpr.zero).Kind = 1 ∧ (list.getD j Xpr.zero).Col = (c : Int) := fun c => by
  rw [keeps_l1 list c _ 0 false (by omega)]
  constructor
  ·
   rintro (h | ⟨j, _, h⟩)
   ·
    cases h
   ·
    exact ⟨j, h⟩
  ·
   rintro ⟨j, h⟩
   exact .inr ⟨j, Nat.zero_le _, h⟩
 unfold keepsAll
 rw [show Int.toNat ((w : Int) - ((0 : Nat) : Int)) + 1 = w - 0 + 1 by omega, loop_iff (keepsAll_l0 list w) w (fun c => keepsAll_l1 list c (list.length - 0 + 1) false 0) true (fun k i => rfl)]
 exact ⟨fun h c hlt => (hc c).1 (h.2 c hlt), fun h => ⟨rfl, fun c hlt => (hc c).2 (h c hlt)⟩⟩

theorem mask_keeps {p : Pln} {w : Int} (hw : 0 ≤ w ∧ w ≤ 6) (hc : ∀ j, j < p.Exprs.length → (p.Exprs.getD j Xpr.zero).Kind = 1 → 0 ≤ (p.Exprs.getD j Xpr.zero).Col ∧ (p.Exprs.getD j Xpr.zero).Col < w) :
  (idupFree_l1 p ((List.length (Pln.Exprs p)) - 0 + 1) 0 0 == (1 : Int) * 2 ^ w.toNat - 1) = keepsAll p.Exprs w := by
 obtain ⟨n, rfl⟩ := Int.eq_ofNat_of_zero_le hw.1
 obtain ⟨m, a1, a2, a3⟩ := found_loop (w := n) (by omega) hc ((List.length (Pln.Exprs p)) - 0 + 1) 0 0 (by omega) (Nat.two_pow_pos n)
 have a1 : idupFree_l1 p ((List.length (Pln.Exprs p)) - 0 + 1) 0 0 = (m : Int) := a1
 have hp := Nat.two_pow_pos n
 rw [a1, Int.toNat_natCast, Bool.eq_iff_iff, keeps_iff, beq_iff_eq, show (1 : Int) * 2 ^ n - 1 = ((2 ^ n - 1 : Nat) : Int) by push_cast [Nat.one_le_two_pow]; omega]
 have key : (m : Int) = ((2 ^ n - 1 : Nat) : Int) ↔ ∀ c, c < n → m.testBit c = true := by
  constructor
  ·
   intro h c hlt
   rw [show m = 2 ^ n - 1 by omega, Nat.testBit_two_pow_sub_one]
   simp [hlt]
  ·
   intro h
   have : m = 2 ^ n - 1 := by
    refine Nat.eq_of_testBit_eq fun c => ?_
    rw [Nat.testBit_two_pow_sub_one]
    by_cases hlt : c < n
    ·
     rw [h c hlt]
     simp [hlt]
    ·
     rw [Nat.testBit_lt_two_pow (Nat.lt_of_lt_of_le a2 (Nat.pow_le_pow_right (by decide) (by omega)))]
     simp [hlt]
   omega
 rw [key]
 have z : ∀ c, ¬ (0 : Nat).testBit c = true := fun c => by simp
 constructor
 ·
  intro h c hlt
  rcases (a3 c).1 (h c hlt) with h | ⟨j, _, h⟩
  ·
   exact absurd h (z c)
  ·
   exact ⟨j, h⟩
 ·
  intro h c hlt
  obtain ⟨j, h⟩ := h c hlt
  exact (a3 c).2 (.inr ⟨j, Nat.zero_le _, h⟩)

theorem planWidth_of {p : Pln} {ws : List Int} (h : VW ws) : planWidth p ws 8 = widthOf p ws := by
 unfold widthOf
 rw [validWidths_iff.2 h, Pln.eta]
 rfl

theorem dup_eq (ws : List Int) (sets : List Bool) : ∀ (f : Nat) (p : Pln), PS ws sets p → dupFree_r f p ws sets = idupFree_r f p ws sets := by
 intro f
 induction f with
 | zero => intro p h; rfl
 | succ f ih =>
  intro p h
  obtain ⟨hO, hT, -⟩ := h.1.pvn.of
  have hpc := parts2 (Pln.Kind p)
  have hOk := hO.kids
  have hOc := hO.kind
  have e : ∀ j : Int, p.Kind ≠ j → (p.Kind == j) = false := fun j h => beq_false_of_ne h
  have t : ∀ j : Int, p.Kind = j → (p.Kind == j) = true := fun j h => beq_iff_eq.2 h
  unfold dupFree_r idupFree_r dupFree_j0 idupFree_j0
  simp only [Go.Am.andThen]
  by_cases h1 : p.Kind = 1
  ·
   rw [t 1 h1]; rfl
  ·
   rw [e 1 h1]
   simp only [cond_false]
   by_cases h6 : p.Kind = 6
   ·
    rw [e 7 (by omega), e 8 (by omega), t 6 h6]; rfl
   ·
    rw [e 6 h6]
    simp only [cond_false]
    cases (bif p.Kind == 7 then p.Kind == 7 else p.Kind == 8) with
    | true => rfl
    | false =>
     simp only [cond_false]
     have hl : Sum.elim (fun _ => true) (fun r => r) (dupFree_l0 (dupFree_r f) p ws sets ((List.length (Pln.Kids p)) - 0 + 1) 0) = true ↔ ∀ i, i < p.Kids.length → dupFree_r f (p.Kids.getD i Pln.zero) ws sets = true := by
      rw [loop_iff (dupFree_l0 (dupFree_r f) p ws sets) p.Kids.length (fun i => dupFree_r f (List.getD p.Kids i Pln.zero) ws sets) true (fun k i => rfl)]
      exact ⟨fun h => h.2, fun h => ⟨rfl, h⟩⟩
     have hr : ∀ b : Bool, Sum.elim (fun _ => b) (fun r => r) (idupFree_l0 (idupFree_r f) p ws sets ((List.length (Pln.Kids p)) - 0 + 1) 0) = true ↔ b = true ∧ ∀ i, i < p.Kids.length → dupFree_r f (p.Kids.getD i Pln.zero) ws sets = true := by
      intro b
      rw [loop_iff (idupFree_l0 (idupFree_r f) p ws sets) p.Kids.length (fun i => idupFree_r f (List.getD p.Kids i Pln.zero) ws sets) b (fun k i => rfl)]
      exact ⟨fun h' => ⟨h'.1, fun i hi => by rw [ih _ (h.kid hi)]; exact h'.2 i hi⟩, fun h' => ⟨h'.1, fun i hi => by rw [← ih _ (h.kid hi)]; exact h'.2 i hi⟩⟩
     by_cases h3 : p.Kind = 3
     ·
      rw [t 3 h3, show (p.Kind != 3) = false by rw [h3]; rfl]
      simp only [cond_true, cond_false]
      rw [Bool.eq_iff_iff, hr, planWidth_of h.1.1, iPlanWidth_eq]
      have hvx := h.1.exprs.1 (.inr h3)
      rw [mask_keeps (widthOf_b _ _) fun j hj hk => (ValidExpr_iff.1 (allv_iff.1 hvx j hj)).2.node.col hk]
      constructor
      ·
       intro hh
       have := and_pos hh
       refine ⟨this.1, fun i hi => ?_⟩
       rw [show i = 0 by omega]
       exact this.2
      ·
       rintro ⟨g1, g2⟩
       rw [g1, g2 0 (by omega)]
       rfl
     ·
      rw [e 3 h3, show (p.Kind != 3) = true by simp [h3]]
      simp only [cond_true, cond_false]
      rw [Bool.eq_iff_iff, hr, hl]
      exact ⟨fun h => ⟨rfl, h⟩, fun h => h.2⟩

def IsDuplicateFree (p : Pln) (ws : List Int) (sets : List Bool) : Bool := (bif (bif (decide (0 < (widthOf (Pln.mk (Pln.Kind p) (Pln.Table p) (Pln.Exprs p) (Pln.Cols p) (Pln.Kids p)) ws))) then (((List.length sets : Nat) : Int) == ((List.length ws : Nat) : Int)) else false) then (dupFree (Pln.mk (Pln.Kind p) (Pln.Table p) (Pln.Exprs p) (Pln.Cols p) (Pln.Kids p)) ws sets) else false)

def IsDuplicateFree_sp : FnSpec := mkSpec [.val (.named 2), .val (.slice (.int .i64)), .val (.slice .bool)] [.val .bool] (fun (p : Pln) (ws : List Int) (sets : List Bool) => True) (fun (p : Pln) (ws : List Int) (sets : List Bool) => [⟨.bool, (IsDuplicateFree p ws sets)⟩])

theorem IsDuplicateFree_ok : FnOK Try.prog 46 IsDuplicateFree_sp := by
 have hC : CtxOK Try.prog (mkCtx tyL [(77, widthOf_sp), (86, dupFree_sp)]) := CtxOK.cons widthOf_ok (CtxOK.cons dupFree_ok (CtxOK.nil tyOK))
 refine FnOK.of_body Try.func46 (by kernel_rfl) rfl (C := (mkCtx tyL [(77, widthOf_sp), (86, dupFree_sp)])) hC.ty (by kernel_rfl) ?_
 intro (p : Pln) (ws : List Int) (sets : List Bool) hwf hpre E
 have hpre : True := hpre
 have hw_p : Wf ⟨(.named 2), (p : Pln)⟩ := hwf _ (List.Mem.head _)
 have hr_p_Kind : -9223372036854775808 ≤ Pln.Kind p ∧ Pln.Kind p ≤ 9223372036854775807 := (hw_p.field (tv := ⟨(.int .i64), Pln.Kind p⟩) (List.Mem.head _)).int_inv
 have hr_p_Table : -9223372036854775808 ≤ Pln.Table p ∧ Pln.Table p ≤ 9223372036854775807 := (hw_p.field (tv := ⟨(.int .i64), Pln.Table p⟩) (List.Mem.tail _ (List.Mem.head _))).int_inv
 have hl_p_Exprs : ((List.length (Pln.Exprs p) : Nat) : Int) ≤ 9223372036854775807 := (hw_p.field (tv := ⟨(.slice (.named 1)), Pln.Exprs p⟩) (List.Mem.tail _ (List.Mem.tail _ (List.Mem.head _)))).len
 have hl_p_Cols : ((List.length (Pln.Cols p) : Nat) : Int) ≤ 9223372036854775807 := (hw_p.field (tv := ⟨(.slice (.int .i64)), Pln.Cols p⟩) (List.Mem.tail _ (List.Mem.tail _ (List.Mem.tail _ (List.Mem.head _))))).len
 have hl_p_Kids : ((List.length (Pln.Kids p) : Nat) : Int) ≤ 9223372036854775807 := (hw_p.field (tv := ⟨(.slice (.named 2)), Pln.Kids p⟩) (List.Mem.tail _ (List.Mem.tail _ (List.Mem.tail _ (List.Mem.tail _ (List.Mem.head _)))))).len
 have hw_ws : Wf ⟨(.slice (.int .i64)), (ws : List Int)⟩ := hwf _ (List.Mem.tail _ (List.Mem.head _))
 have hl_ws : ((List.length ws : Nat) : Int) ≤ 9223372036854775807 := hw_ws.len
 have hw_sets : Wf ⟨(.slice .bool), (sets : List Bool)⟩ := hwf _ (List.Mem.tail _ (List.Mem.tail _ (List.Mem.head _)))
 have hl_sets : ((List.length sets : Nat) : Int) ≤ 9223372036854775807 := hw_sets.len
 have e0 : IsDuplicateFree p ws sets = IsDuplicateFree p ws sets := rfl
 refine AW.seq ?_
 refine AW.reg hC  false [] [1, 2, 3] [12]
  ⟨[(1, .data (.slice (.int .i64)) (ws : List Int)), (2, .data (.slice .bool) (sets : List Bool)), (3, .ref 12 1 0)], [(12, .box 1 [.int .i64 (Pln.Kind p), .int .i64 (Pln.Table p), .data (.slice (.named 1)) ((Pln.Exprs p) : List Xpr), .data (.slice (.int .i64)) ((Pln.Cols p) : List Int), .data (.slice (.named 2)) ((Pln.Kids p) : List Pln)])]⟩
  [] (by kernel_rfl) ?_ ?_
 ·
  exact trivial
 refine AW.seq ?_
 refine AW.reg hC  false [] [6] []
  ⟨[(6, .bool (bif (bif (decide (0 < (widthOf (Pln.mk (Pln.Kind p) (Pln.Table p) (Pln.Exprs p) (Pln.Cols p) (Pln.Kids p)) ws))) then (((List.length sets : Nat) : Int) == ((List.length ws : Nat) : Int)) else false) then (dupFree (Pln.mk (Pln.Kind p) (Pln.Table p) (Pln.Exprs p) (Pln.Cols p) (Pln.Kids p)) ws sets) else false))], []⟩
  [(True), (((decide (0 < (widthOf (Pln.mk (Pln.Kind p) (Pln.Table p) (Pln.Exprs p) (Pln.Cols p) (Pln.Kids p)) ws))) = true) → (((decide (0 < (widthOf (Pln.mk (Pln.Kind p) (Pln.Table p) (Pln.Exprs p) (Pln.Cols p) (Pln.Kids p)) ws))) = true))), (((decide (0 < (widthOf (Pln.mk (Pln.Kind p) (Pln.Table p) (Pln.Exprs p) (Pln.Cols p) (Pln.Kids p)) ws))) = true) → (((decide (0 < (widthOf (Pln.mk (Pln.Kind p) (Pln.Table p) (Pln.Exprs p) (Pln.Cols p) (Pln.Kids p)) ws))) = true))), (((decide (0 < (widthOf (Pln.mk (Pln.Kind p) (Pln.Table p) (Pln.Exprs p) (Pln.Cols p) (Pln.Kids p)) ws))) = true) → (((decide (0 < (widthOf (Pln.mk (Pln.Kind p) (Pln.Table p) (Pln.Exprs p) (Pln.Cols p) (Pln.Kids p)) ws))) = true))), (((decide (0 < (widthOf (Pln.mk (Pln.Kind p) (Pln.Table p) (Pln.Exprs p) (Pln.Cols p) (Pln.Kids p)) ws))) = true) → (((decide (0 < (widthOf (Pln.mk (Pln.Kind p) (Pln.Table p) (Pln.Exprs p) (Pln.Cols p) (Pln.Kids p)) ws))) = true))), (((decide (0 < (widthOf (Pln.mk (Pln.Kind p) (Pln.Table p) (Pln.Exprs p) (Pln.Cols p) (Pln.Kids p)) ws))) = true) → (((decide (0 < (widthOf (Pln.mk (Pln.Kind p) (Pln.Table p) (Pln.Exprs p) (Pln.Cols p) (Pln.Kids p)) ws))) = true))), (((bif (decide (0 < (widthOf (Pln.mk (Pln.Kind p) (Pln.Table p) (Pln.Exprs p) (Pln.Cols p) (Pln.Kids p)) ws))) then (((List.length sets : Nat) : Int) == ((List.length ws : Nat) : Int)) else false) = true) → (((bif (decide (0 < (widthOf (Pln.mk (Pln.Kind p) (Pln.Table p) (Pln.Exprs p) (Pln.Cols p) (Pln.Kids p)) ws))) then (((List.length sets : Nat) : Int) == ((List.length ws : Nat) : Int)) else false) = true))), (((bif (decide (0 < (widthOf (Pln.mk (Pln.Kind p) (Pln.Table p) (Pln.Exprs p) (Pln.Cols p) (Pln.Kids p)) ws))) then (((List.length sets : Nat) : Int) == ((List.length ws : Nat) : Int)) else false) = true) → (((bif (decide (0 < (widthOf (Pln.mk (Pln.Kind p) (Pln.Table p) (Pln.Exprs p) (Pln.Cols p) (Pln.Kids p)) ws))) then (((List.length sets : Nat) : Int) == ((List.length ws : Nat) : Int)) else false) = true))), (((bif (decide (0 < (widthOf (Pln.mk (Pln.Kind p) (Pln.Table p) (Pln.Exprs p) (Pln.Cols p) (Pln.Kids p)) ws))) then (((List.length sets : Nat) : Int) == ((List.length ws : Nat) : Int)) else false) = true) → (((bif (decide (0 < (widthOf (Pln.mk (Pln.Kind p) (Pln.Table p) (Pln.Exprs p) (Pln.Cols p) (Pln.Kids p)) ws))) then (((List.length sets : Nat) : Int) == ((List.length ws : Nat) : Int)) else false) = true))), (((bif (decide (0 < (widthOf (Pln.mk (Pln.Kind p) (Pln.Table p) (Pln.Exprs p) (Pln.Cols p) (Pln.Kids p)) ws))) then (((List.length sets : Nat) : Int) == ((List.length ws : Nat) : Int)) else false) = true) → (PS ws sets (Pln.mk (Pln.Kind p) (Pln.Table p) (Pln.Exprs p) (Pln.Cols p) (Pln.Kids p)))), (((bif (decide (0 < (widthOf (Pln.mk (Pln.Kind p) (Pln.Table p) (Pln.Exprs p) (Pln.Cols p) (Pln.Kids p)) ws))) then (((List.length sets : Nat) : Int) == ((List.length ws : Nat) : Int)) else false) = true) → (((bif (decide (0 < (widthOf (Pln.mk (Pln.Kind p) (Pln.Table p) (Pln.Exprs p) (Pln.Cols p) (Pln.Kids p)) ws))) then (((List.length sets : Nat) : Int) == ((List.length ws : Nat) : Int)) else false) = true)))] (by kernel_rfl) ?_ ?_
 ·
  refine ⟨?_, ?_, ?_, ?_, ?_, ?_, ?_, ?_, ?_, ?_, ?_, trivial⟩
  ·
   trivial
  ·
   intro g1
   have g1p0 : 0 < (widthOf (Pln.mk (Pln.Kind p) (Pln.Table p) (Pln.Exprs p) (Pln.Cols p) (Pln.Kids p)) ws) := (of_decide_eq_true g1)
   first | assumption | exact ⟨by assumption, by assumption⟩
  ·
   intro g2
   have g2p0 : 0 < (widthOf (Pln.mk (Pln.Kind p) (Pln.Table p) (Pln.Exprs p) (Pln.Cols p) (Pln.Kids p)) ws) := (of_decide_eq_true g2)
   first | assumption | exact ⟨by assumption, by assumption⟩
  ·
   intro g3
   have g3p0 : 0 < (widthOf (Pln.mk (Pln.Kind p) (Pln.Table p) (Pln.Exprs p) (Pln.Cols p) (Pln.Kids p)) ws) := (of_decide_eq_true g3)
   first | assumption | exact ⟨by assumption, by assumption⟩
  ·
   intro g4
   have g4p0 : 0 < (widthOf (Pln.mk (Pln.Kind p) (Pln.Table p) (Pln.Exprs p) (Pln.Cols p) (Pln.Kids p)) ws) := (of_decide_eq_true g4)
   first | assumption | exact ⟨by assumption, by assumption⟩
  ·
   intro g5
   have g5p0 : 0 < (widthOf (Pln.mk (Pln.Kind p) (Pln.Table p) (Pln.Exprs p) (Pln.Cols p) (Pln.Kids p)) ws) := (of_decide_eq_true g5)
   first | assumption | exact ⟨by assumption, by assumption⟩
  ·
   intro g6
   have g6p0 : (0 < (widthOf (Pln.mk (Pln.Kind p) (Pln.Table p) (Pln.Exprs p) (Pln.Cols p) (Pln.Kids p)) ws)) ∧ (((List.length sets : Nat) : Int) = ((List.length ws : Nat) : Int)) := (And.imp (fun h => (of_decide_eq_true h)) (fun h => (Go.Am.beq_pos h)) (Go.Am.and_pos g6))
   first | assumption | exact ⟨by assumption, by assumption⟩
  ·
   intro g7
   have g7p0 : (0 < (widthOf (Pln.mk (Pln.Kind p) (Pln.Table p) (Pln.Exprs p) (Pln.Cols p) (Pln.Kids p)) ws)) ∧ (((List.length sets : Nat) : Int) = ((List.length ws : Nat) : Int)) := (And.imp (fun h => (of_decide_eq_true h)) (fun h => (Go.Am.beq_pos h)) (Go.Am.and_pos g7))
   first | assumption | exact ⟨by assumption, by assumption⟩
  ·
   intro g8
   have g8p0 : (0 < (widthOf (Pln.mk (Pln.Kind p) (Pln.Table p) (Pln.Exprs p) (Pln.Cols p) (Pln.Kids p)) ws)) ∧ (((List.length sets : Nat) : Int) = ((List.length ws : Nat) : Int)) := (And.imp (fun h => (of_decide_eq_true h)) (fun h => (Go.Am.beq_pos h)) (Go.Am.and_pos g8))
   first | assumption | exact ⟨by assumption, by assumption⟩
  ·
   intro g9
   have g9p0 : (0 < (widthOf (Pln.mk (Pln.Kind p) (Pln.Table p) (Pln.Exprs p) (Pln.Cols p) (Pln.Kids p)) ws)) ∧ (((List.length sets : Nat) : Int) = ((List.length ws : Nat) : Int)) := (And.imp (fun h => (of_decide_eq_true h)) (fun h => (Go.Am.beq_pos h)) (Go.Am.and_pos g9))
   exact ⟨PVw.mk' (by have := g9p0.1; omega), by omega⟩
  ·
   intro g10
   have g10p0 : (0 < (widthOf (Pln.mk (Pln.Kind p) (Pln.Table p) (Pln.Exprs p) (Pln.Cols p) (Pln.Kids p)) ws)) ∧ (((List.length sets : Nat) : Int) = ((List.length ws : Nat) : Int)) := (And.imp (fun h => (of_decide_eq_true h)) (fun h => (Go.Am.beq_pos h)) (Go.Am.and_pos g10))
   first | assumption | exact ⟨by assumption, by assumption⟩
 refine AW.ret ?_
 exact AW.retE (β := Bool) (fun v => [⟨.bool, v⟩]) (fun v => []) (v := (bif (bif (decide (0 < (widthOf (Pln.mk (Pln.Kind p) (Pln.Table p) (Pln.Exprs p) (Pln.Cols p) (Pln.Kids p)) ws))) then (((List.length sets : Nat) : Int) == ((List.length ws : Nat) : Int)) else false) then (dupFree (Pln.mk (Pln.Kind p) (Pln.Table p) (Pln.Exprs p) (Pln.Cols p) (Pln.Kids p)) ws sets) else false)) e0 (by kernel_rfl) rfl rfl

def iIsDuplicateFree (p : Pln) (ws : List Int) (sets : List Bool) : Bool := (bif (bif ((iPlanWidth (Pln.mk (Pln.Kind p) (Pln.Table p) (Pln.Exprs p) (Pln.Cols p) (Pln.Kids p)) ws) == 0) then true else (((List.length sets : Nat) : Int) != ((List.length ws : Nat) : Int))) then false else (idupFree (Pln.mk (Pln.Kind p) (Pln.Table p) (Pln.Exprs p) (Pln.Cols p) (Pln.Kids p)) ws sets))

def iIsDuplicateFree_sp : FnSpec := mkSpec [.val (.named 2), .val (.slice (.int .i64)), .val (.slice .bool)] [.val .bool] (fun (p : Pln) (ws : List Int) (sets : List Bool) => True) (fun (p : Pln) (ws : List Int) (sets : List Bool) => [⟨.bool, (iIsDuplicateFree p ws sets)⟩])

theorem iIsDuplicateFree_ok : FnOK Try.prog 48 iIsDuplicateFree_sp := by
 have hC : CtxOK Try.prog (mkCtx tyL [(54, iPlanWidth_sp), (87, idupFree_sp)]) := CtxOK.cons iPlanWidth_ok (CtxOK.cons idupFree_ok (CtxOK.nil tyOK))
 refine FnOK.of_body Try.func48 (by kernel_rfl) rfl (C := (mkCtx tyL [(54, iPlanWidth_sp), (87, idupFree_sp)])) hC.ty (by kernel_rfl) ?_
 intro (p : Pln) (ws : List Int) (sets : List Bool) hwf hpre E
 have hpre : True := hpre
 have hw_p : Wf ⟨(.named 2), (p : Pln)⟩ := hwf _ (List.Mem.head _)
 have hr_p_Kind : -9223372036854775808 ≤ Pln.Kind p ∧ Pln.Kind p ≤ 9223372036854775807 := (hw_p.field (tv := ⟨(.int .i64), Pln.Kind p⟩) (List.Mem.head _)).int_inv
 have hr_p_Table : -9223372036854775808 ≤ Pln.Table p ∧ Pln.Table p ≤ 9223372036854775807 := (hw_p.field (tv := ⟨(.int .i64), Pln.Table p⟩) (List.Mem.tail _ (List.Mem.head _))).int_inv
 have hl_p_Exprs : ((List.length (Pln.Exprs p) : Nat) : Int) ≤ 9223372036854775807 := (hw_p.field (tv := ⟨(.slice (.named 1)), Pln.Exprs p⟩) (List.Mem.tail _ (List.Mem.tail _ (List.Mem.head _)))).len
 have hl_p_Cols : ((List.length (Pln.Cols p) : Nat) : Int) ≤ 9223372036854775807 := (hw_p.field (tv := ⟨(.slice (.int .i64)), Pln.Cols p⟩) (List.Mem.tail _ (List.Mem.tail _ (List.Mem.tail _ (List.Mem.head _))))).len
 have hl_p_Kids : ((List.length (Pln.Kids p) : Nat) : Int) ≤ 9223372036854775807 := (hw_p.field (tv := ⟨(.slice (.named 2)), Pln.Kids p⟩) (List.Mem.tail _ (List.Mem.tail _ (List.Mem.tail _ (List.Mem.tail _ (List.Mem.head _)))))).len
 have hw_ws : Wf ⟨(.slice (.int .i64)), (ws : List Int)⟩ := hwf _ (List.Mem.tail _ (List.Mem.head _))
 have hl_ws : ((List.length ws : Nat) : Int) ≤ 9223372036854775807 := hw_ws.len
 have hw_sets : Wf ⟨(.slice .bool), (sets : List Bool)⟩ := hwf _ (List.Mem.tail _ (List.Mem.tail _ (List.Mem.head _)))
 have hl_sets : ((List.length sets : Nat) : Int) ≤ 9223372036854775807 := hw_sets.len
 have e0 : iIsDuplicateFree p ws sets = iIsDuplicateFree p ws sets := rfl
 refine AW.seq ?_
 refine AW.reg hC  false [] [1, 2, 3] [12]
  ⟨[(1, .data (.slice (.int .i64)) (ws : List Int)), (2, .data (.slice .bool) (sets : List Bool)), (3, .ref 12 1 0)], [(12, .box 1 [.int .i64 (Pln.Kind p), .int .i64 (Pln.Table p), .data (.slice (.named 1)) ((Pln.Exprs p) : List Xpr), .data (.slice (.int .i64)) ((Pln.Cols p) : List Int), .data (.slice (.named 2)) ((Pln.Kids p) : List Pln)])]⟩
  [] (by kernel_rfl) ?_ ?_
 ·
  exact trivial
 refine AW.seq ?_
 refine AW.seq ?_
 refine AW.reg hC  false [] [1, 2, 3, 17] [12]
  ⟨[(1, .data (.slice (.int .i64)) (ws : List Int)), (2, .data (.slice .bool) (sets : List Bool)), (3, .ref 12 1 0), (17, .bool (bif ((iPlanWidth (Pln.mk (Pln.Kind p) (Pln.Table p) (Pln.Exprs p) (Pln.Cols p) (Pln.Kids p)) ws) == 0) then true else (((List.length sets : Nat) : Int) != ((List.length ws : Nat) : Int))))], [(12, .box 1 [.int .i64 (Pln.Kind p), .int .i64 (Pln.Table p), .data (.slice (.named 1)) ((Pln.Exprs p) : List Xpr), .data (.slice (.int .i64)) ((Pln.Cols p) : List Int), .data (.slice (.named 2)) ((Pln.Kids p) : List Pln)])]⟩
  [(True), ((((iPlanWidth (Pln.mk (Pln.Kind p) (Pln.Table p) (Pln.Exprs p) (Pln.Cols p) (Pln.Kids p)) ws) == 0) = false) → ((((iPlanWidth (Pln.mk (Pln.Kind p) (Pln.Table p) (Pln.Exprs p) (Pln.Cols p) (Pln.Kids p)) ws) == 0) = false))), ((((iPlanWidth (Pln.mk (Pln.Kind p) (Pln.Table p) (Pln.Exprs p) (Pln.Cols p) (Pln.Kids p)) ws) == 0) = false) → ((((iPlanWidth (Pln.mk (Pln.Kind p) (Pln.Table p) (Pln.Exprs p) (Pln.Cols p) (Pln.Kids p)) ws) == 0) = false))), ((((iPlanWidth (Pln.mk (Pln.Kind p) (Pln.Table p) (Pln.Exprs p) (Pln.Cols p) (Pln.Kids p)) ws) == 0) = false) → ((((iPlanWidth (Pln.mk (Pln.Kind p) (Pln.Table p) (Pln.Exprs p) (Pln.Cols p) (Pln.Kids p)) ws) == 0) = false))), ((((iPlanWidth (Pln.mk (Pln.Kind p) (Pln.Table p) (Pln.Exprs p) (Pln.Cols p) (Pln.Kids p)) ws) == 0) = false) → ((((iPlanWidth (Pln.mk (Pln.Kind p) (Pln.Table p) (Pln.Exprs p) (Pln.Cols p) (Pln.Kids p)) ws) == 0) = false))), ((((iPlanWidth (Pln.mk (Pln.Kind p) (Pln.Table p) (Pln.Exprs p) (Pln.Cols p) (Pln.Kids p)) ws) == 0) = false) → ((((iPlanWidth (Pln.mk (Pln.Kind p) (Pln.Table p) (Pln.Exprs p) (Pln.Cols p) (Pln.Kids p)) ws) == 0) = false)))] (by kernel_rfl) ?_ ?_
 ·
  refine ⟨?_, ?_, ?_, ?_, ?_, ?_, trivial⟩
  ·
   trivial
  ·
   intro g1
   have g1p0 : (iPlanWidth (Pln.mk (Pln.Kind p) (Pln.Table p) (Pln.Exprs p) (Pln.Cols p) (Pln.Kids p)) ws) ≠ 0 := (Go.Am.beq_neg g1)
   first | assumption | exact ⟨by assumption, by assumption⟩
  ·
   intro g2
   have g2p0 : (iPlanWidth (Pln.mk (Pln.Kind p) (Pln.Table p) (Pln.Exprs p) (Pln.Cols p) (Pln.Kids p)) ws) ≠ 0 := (Go.Am.beq_neg g2)
   first | assumption | exact ⟨by assumption, by assumption⟩
  ·
   intro g3
   have g3p0 : (iPlanWidth (Pln.mk (Pln.Kind p) (Pln.Table p) (Pln.Exprs p) (Pln.Cols p) (Pln.Kids p)) ws) ≠ 0 := (Go.Am.beq_neg g3)
   first | assumption | exact ⟨by assumption, by assumption⟩
  ·
   intro g4
   have g4p0 : (iPlanWidth (Pln.mk (Pln.Kind p) (Pln.Table p) (Pln.Exprs p) (Pln.Cols p) (Pln.Kids p)) ws) ≠ 0 := (Go.Am.beq_neg g4)
   first | assumption | exact ⟨by assumption, by assumption⟩
  ·
   intro g5
   have g5p0 : (iPlanWidth (Pln.mk (Pln.Kind p) (Pln.Table p) (Pln.Exprs p) (Pln.Cols p) (Pln.Kids p)) ws) ≠ 0 := (Go.Am.beq_neg g5)
   first | assumption | exact ⟨by assumption, by assumption⟩
 refine AW.cond (b := (bif ((iPlanWidth (Pln.mk (Pln.Kind p) (Pln.Table p) (Pln.Exprs p) (Pln.Cols p) (Pln.Kids p)) ws) == 0) then true else (((List.length sets : Nat) : Int) != ((List.length ws : Nat) : Int)))) (by kernel_rfl) ?_ ?_
 ·
  intro h6
  have h6q : ((iPlanWidth (Pln.mk (Pln.Kind p) (Pln.Table p) (Pln.Exprs p) (Pln.Cols p) (Pln.Kids p)) ws) = 0) ∨ (((List.length sets : Nat) : Int) ≠ ((List.length ws : Nat) : Int)) := (Or.imp (fun h => (Go.Am.beq_pos h)) (fun h => (Go.Am.bne_pos h)) (Go.Am.or_pos h6))
  have e7 := e0.trans (Go.Am.bif_t h6)
  refine AW.seq ?_
  refine AW.reg hC  false [] [6] []
   ⟨[(6, .bool false)], []⟩
   [] (by kernel_rfl) ?_ ?_
  ·
   exact trivial
  refine AW.ret ?_
  exact AW.retE (β := Bool) (fun v => [⟨.bool, v⟩]) (fun v => []) (v := false) e7 (by kernel_rfl) rfl rfl
 ·
  intro h8
  have h8q : ((iPlanWidth (Pln.mk (Pln.Kind p) (Pln.Table p) (Pln.Exprs p) (Pln.Cols p) (Pln.Kids p)) ws) ≠ 0) ∧ (((List.length sets : Nat) : Int) = ((List.length ws : Nat) : Int)) := (And.imp (fun h => (Go.Am.beq_neg h)) (fun h => (Go.Am.bne_neg h)) (Go.Am.or_neg h8))
  have e9 := e0.trans (Go.Am.bif_f h8)
  refine AW.keep [1, 2, 3] [12] ⟨[(1, .data (.slice (.int .i64)) (ws : List Int)), (2, .data (.slice .bool) (sets : List Bool)), (3, .ref 12 1 0)], [(12, .box 1 [.int .i64 (Pln.Kind p), .int .i64 (Pln.Table p), .data (.slice (.named 1)) ((Pln.Exprs p) : List Xpr), .data (.slice (.int .i64)) ((Pln.Cols p) : List Int), .data (.slice (.named 2)) ((Pln.Kids p) : List Pln)])]⟩ (by kernel_rfl) ?_
  refine AW.skip ?_
  refine AW.seq ?_
  refine AW.reg hC  false [] [6] []
   ⟨[(6, .bool (idupFree (Pln.mk (Pln.Kind p) (Pln.Table p) (Pln.Exprs p) (Pln.Cols p) (Pln.Kids p)) ws sets))], []⟩
   [(PS ws sets (Pln.mk (Pln.Kind p) (Pln.Table p) (Pln.Exprs p) (Pln.Cols p) (Pln.Kids p)))] (by kernel_rfl) ?_ ?_
  ·
   refine ⟨?_, trivial⟩
   ·
    exact ⟨PVw.mk' (by rw [← iPlanWidth_eq]; exact h8q.1), by omega⟩
  refine AW.ret ?_
  exact AW.retE (β := Bool) (fun v => [⟨.bool, v⟩]) (fun v => []) (v := (idupFree (Pln.mk (Pln.Kind p) (Pln.Table p) (Pln.Exprs p) (Pln.Cols p) (Pln.Kids p)) ws sets)) e9 (by kernel_rfl) rfl rfl

def toBoolS_l0 (a : List Bool) : Nat → Nat → (List Bool) → (List Bool)
 | 0, i, out => out
 | k + 1, i, out => (bif (decide (((i : Nat) : Int) < ((List.length a : Nat) : Int))) then (toBoolS_l0 a k (i + 1) (List.set out i (List.getD a i false))) else out)

def toBoolS (a : List Bool) : (List Bool) := (Go.Am.andThen (toBoolS_l0 a ((List.length a) - 0 + 1) 0 (List.replicate (List.length a) false : List Bool)) (fun z => (fun (out : List Bool) => out) z))

def toBoolS_sp : FnSpec := mkSpec [.val (.slice .bool)] [.own .bool] (fun (a : List Bool) => (List.length a : Int) ≤ 1048576) (fun (a : List Bool) => [⟨(.slice .bool), (toBoolS a)⟩])

theorem toBoolS_ok : FnOK Try.prog 47 toBoolS_sp := by
 have hC : CtxOK Try.prog (mkCtx tyL []) := CtxOK.nil tyOK
 refine FnOK.of_body Try.func47 (by kernel_rfl) rfl (C := (mkCtx tyL [])) hC.ty (by kernel_rfl) ?_
 intro (a : List Bool) hwf hpre E
 have hpre : (List.length a : Int) ≤ 1048576 := hpre
 have hw_a : Wf ⟨(.slice .bool), (a : List Bool)⟩ := hwf _ (List.Mem.head _)
 have hl_a : ((List.length a : Nat) : Int) ≤ 9223372036854775807 := hw_a.len
 have e0 : toBoolS a = toBoolS a := rfl
 refine AW.seq ?_
 refine AW.reg hC  false [] [0] []
  ⟨[(0, .data (.slice .bool) (a : List Bool))], []⟩
  [] (by kernel_rfl) ?_ ?_
 ·
  exact trivial
 refine AW.seq ?_
 refine AW.reg hC  false [] [0, 3] [28]
  ⟨[(0, .data (.slice .bool) (a : List Bool)), (3, .arr 28 1)], [(28, .arr 1 .bool ((List.replicate (List.length a) false : List Bool) : List Bool))]⟩
  [(0 ≤ ((List.length a : Nat) : Int) ∧ ((List.length a : Nat) : Int) ≤ ((List.length a : Nat) : Int) ∧ ((List.length a : Nat) : Int) ≤ 4294967296)] (by kernel_rfl) ?_ ?_
 ·
  refine ⟨?_, trivial⟩
  ·
   first | omega | (dsimp only; omega) | (simp only [lens] at *; omega)
 refine AW.seq ?_
 refine AW.seq ?_
 refine AW.reg hC  false [] [0, 3, 4] [28]
  ⟨[(0, .data (.slice .bool) (a : List Bool)), (3, .arr 28 1), (4, .int .i64 0)], [(28, .arr 1 .bool ((List.replicate (List.length a) false : List Bool) : List Bool))]⟩
  [] (by kernel_rfl) ?_ ?_
 ·
  exact trivial
 refine AW.cutQ (α := (List Bool)) (fun x => ⟨[(3, .arr 28 1)], [(28, .arr 1 .bool (x : List Bool))]⟩) (fun x => (x.length = (List.length a)) ∧ (toBoolS_l0 a ((List.length a) - 0 + 1) 0 (List.replicate (List.length a) false : List Bool)) = x) ?_ ?_
 ·
  skip
  refine AW.block ?_
  refine AW.loop (α := Nat × (List Bool)) (fun x => ⟨[(0, .data (.slice .bool) (a : List Bool)), (3, .arr 28 1), (4, .int .i64 ((x.1 : Nat) : Int))], [(28, .arr 1 .bool (x.2 : List Bool))]⟩) (fun x => (x.2.length = (List.length a)) ∧ ∃ k, (List.length a) - x.1 < k ∧ (toBoolS_l0 a ((List.length a) - 0 + 1) 0 (List.replicate (List.length a) false : List Bool)) = toBoolS_l0 a k x.1 x.2) (fun x => (List.length a) - x.1) (0, (List.replicate (List.length a) false : List Bool)) (by kernel_rfl) ⟨?_, _, Nat.lt_succ_self _, rfl⟩ ?_
  ·
   show (List.replicate (List.length a) false : List Bool).length = (List.length a)
   first | exact trivial | (refine ⟨?_, ?_⟩ <;> first | omega | simp) | omega | simp
  ·
   intro x hR
   obtain ⟨i, out⟩ := x
   obtain ⟨hI0, k15, hk13, e14⟩ := hR
   replace hI0 : out.length = (List.length a) := hI0
   replace hk13 : (List.length a) - i < k15 := hk13
   obtain ⟨k15q, rfl⟩ : ∃ k, k15 = k + 1 := ⟨k15 - 1, by omega⟩
   refine AW.seq ?_
   refine AW.seq ?_
   refine AW.reg hC  false [] [0, 3, 4, 11] [28]
    ⟨[(0, .data (.slice .bool) (a : List Bool)), (3, .arr 28 1), (4, .int .i64 ((i : Nat) : Int)), (11, .bool (decide (((i : Nat) : Int) < ((List.length a : Nat) : Int))))], [(28, .arr 1 .bool (out : List Bool))]⟩
    [] (by kernel_rfl) ?_ ?_
   ·
    exact trivial
   refine AW.cond (b := (decide (((i : Nat) : Int) < ((List.length a : Nat) : Int)))) (by kernel_rfl) ?_ ?_
   ·
    intro h16
    have h16q : ((i : Nat) : Int) < ((List.length a : Nat) : Int) := (of_decide_eq_true h16)
    have e17 := e14.trans (Go.Am.bif_t h16)
    refine AW.keep [0, 3, 4] [28] ⟨[(0, .data (.slice .bool) (a : List Bool)), (3, .arr 28 1), (4, .int .i64 ((i : Nat) : Int))], [(28, .arr 1 .bool (out : List Bool))]⟩ (by kernel_rfl) ?_
    refine AW.skip ?_
    refine AW.seq ?_
    refine AW.block ?_
    refine AW.reg hC  false [] [0, 3, 4] [28]
     ⟨[(0, .data (.slice .bool) (a : List Bool)), (3, .arr 28 1), (4, .int .i64 ((i : Nat) : Int))], [(28, .arr 1 .bool ((List.set out i (List.getD a i false)) : List Bool))]⟩
     [(0 ≤ ((i : Nat) : Int) ∧ ((i : Nat) : Int) < ((List.length a : Nat) : Int)), (0 ≤ ((i : Nat) : Int) ∧ ((i : Nat) : Int) < ((List.length out : Nat) : Int))] (by kernel_rfl) ?_ ?_
    ·
     refine ⟨?_, ?_, trivial⟩
     ·
      first | omega | (dsimp only; omega) | (simp only [lens] at *; omega)
     ·
      first | omega | (dsimp only; omega) | (simp only [lens] at *; omega)
    refine AW.reg hC  false [] [0, 3, 4] [28]
     ⟨[(0, .data (.slice .bool) (a : List Bool)), (3, .arr 28 1), (4, .int .i64 ((i + 1 : Nat) : Int))], [(28, .arr 1 .bool ((List.set out i (List.getD a i false)) : List Bool))]⟩
     [(-9223372036854775808 ≤ ((i + 1 : Nat) : Int) ∧ ((i + 1 : Nat) : Int) ≤ 9223372036854775807)] (by kernel_rfl) ?_ ?_
    ·
     refine ⟨?_, trivial⟩
     ·
      first | omega | (dsimp only; omega) | (simp only [lens] at *; omega)
    refine AW.back (x := (i, out)) (i + 1, (List.set out i (List.getD a i false))) (by kernel_rfl) ⟨?_, k15q, ?_, e17⟩ ?_
    ·
     show (List.set out i (List.getD a i false)).length = (List.length a)
     first | assumption | exact trivial | (refine ⟨?_, ?_⟩ <;> first | omega | (simp only [lens] at *; omega)) | omega | (simp only [lens] at *; omega)
    ·
     show (List.length a) - (i + 1) < k15q
     first | omega | (simp only [lens]; omega)
    ·
     show (List.length a) - (i + 1) < (List.length a) - i
     first | omega | (simp only [lens]; omega)
   ·
    intro h18
    have h18q : ¬ (((i : Nat) : Int) < ((List.length a : Nat) : Int)) := (of_decide_eq_false h18)
    have e19 := e14.trans (Go.Am.bif_f h18)
    refine AW.keep [3] [28] ⟨[(3, .arr 28 1)], [(28, .arr 1 .bool (out : List Bool))]⟩ (by kernel_rfl) ?_
    refine AW.exit ?_
    refine AW.meet out (by kernel_rfl) ⟨?_, e19⟩
    show out.length = (List.length a)
    first | assumption | exact trivial | omega
 ·
  intro out hR
  obtain ⟨hJ0, e20⟩ := hR
  replace hJ0 : out.length = (List.length a) := hJ0
  have e21 := e0.trans (Go.Am.then_eq e20)
  refine AW.seq ?_
  refine AW.reg hC  false [] [2] [28]
   ⟨[(2, .arr 28 1)], [(28, .arr 1 .bool (out : List Bool))]⟩
   [] (by kernel_rfl) ?_ ?_
  ·
   exact trivial
  refine AW.ret ?_
  exact AW.retE (β := (List Bool)) (fun v => [⟨(.slice .bool), v⟩]) (fun v => []) (v := out) e21 (by kernel_rfl) rfl rfl

def eqBoolS_l0 (a : List Bool) (b : List Bool) : Nat → Nat → Unit ⊕ Bool
 | 0, i => .inl ()
 | k + 1, i => (bif (decide (((i : Nat) : Int) < ((List.length a : Nat) : Int))) then (bif ((List.getD a i false) != (List.getD b i false)) then (.inr false) else (eqBoolS_l0 a b k (i + 1))) else (.inl ()))

def eqBoolS (a : List Bool) (b : List Bool) : Bool := (bif (((List.length a : Nat) : Int) != ((List.length b : Nat) : Int)) then false else (Sum.elim (fun _ => true) (fun r => r) (eqBoolS_l0 a b ((List.length a) - 0 + 1) 0)))

def eqBoolS_sp : FnSpec := mkSpec [.val (.slice .bool), .val (.slice .bool)] [.val .bool] (fun (a : List Bool) (b : List Bool) => True) (fun (a : List Bool) (b : List Bool) => [⟨.bool, (eqBoolS a b)⟩])

theorem eqBoolS_ok : FnOK Try.prog 33 eqBoolS_sp := by
 have hC : CtxOK Try.prog (mkCtx tyL []) := CtxOK.nil tyOK
 have hM : Try.prog.follows .mixedOrders = true := Try.checked.mixed
 refine FnOK.of_body Try.func33 (by kernel_rfl) rfl (C := (mkCtx tyL [])) hC.ty (by kernel_rfl) ?_
 intro (a : List Bool) (b : List Bool) hwf hpre E
 have hpre : True := hpre
 have hw_a : Wf ⟨(.slice .bool), (a : List Bool)⟩ := hwf _ (List.Mem.head _)
 have hl_a : ((List.length a : Nat) : Int) ≤ 9223372036854775807 := hw_a.len
 have hw_b : Wf ⟨(.slice .bool), (b : List Bool)⟩ := hwf _ (List.Mem.tail _ (List.Mem.head _))
 have hl_b : ((List.length b : Nat) : Int) ≤ 9223372036854775807 := hw_b.len
 have e0 : eqBoolS a b = eqBoolS a b := rfl
 refine AW.seq ?_
 refine AW.reg hC  false [] [0, 1] []
  ⟨[(0, .data (.slice .bool) (a : List Bool)), (1, .data (.slice .bool) (b : List Bool))], []⟩
  [] (by kernel_rfl) ?_ ?_
 ·
  exact trivial
 refine AW.seq ?_
 refine AW.seq ?_
 refine AW.reg hC  false [] [0, 1, 10] []
  ⟨[(0, .data (.slice .bool) (a : List Bool)), (1, .data (.slice .bool) (b : List Bool)), (10, .bool (((List.length a : Nat) : Int) != ((List.length b : Nat) : Int)))], []⟩
  [] (by kernel_rfl) ?_ ?_
 ·
  exact trivial
 refine AW.cond (b := (((List.length a : Nat) : Int) != ((List.length b : Nat) : Int))) (by kernel_rfl) ?_ ?_
 ·
  intro h1
  have h1q : ((List.length a : Nat) : Int) ≠ ((List.length b : Nat) : Int) := (Go.Am.bne_pos h1)
  have e2 := e0.trans (Go.Am.bif_t h1)
  refine AW.seq ?_
  refine AW.reg hC  false [] [4] []
   ⟨[(4, .bool false)], []⟩
   [] (by kernel_rfl) ?_ ?_
  ·
   exact trivial
  refine AW.ret ?_
  exact AW.retE (β := Bool) (fun v => [⟨.bool, v⟩]) (fun v => []) (v := false) e2 (by kernel_rfl) rfl rfl
 ·
  intro h3
  have h3q : ((List.length a : Nat) : Int) = ((List.length b : Nat) : Int) := (Go.Am.bne_neg h3)
  have e4 := e0.trans (Go.Am.bif_f h3)
  refine AW.keep [0, 1] [] ⟨[(0, .data (.slice .bool) (a : List Bool)), (1, .data (.slice .bool) (b : List Bool))], []⟩ (by kernel_rfl) ?_
  refine AW.skip ?_
  refine AW.seq ?_
  refine AW.seq ?_
  refine AW.reg hC  false [] [0, 1, 5] []
   ⟨[(0, .data (.slice .bool) (a : List Bool)), (1, .data (.slice .bool) (b : List Bool)), (5, .int .i64 0)], []⟩
   [] (by kernel_rfl) ?_ ?_
  ·
   exact trivial
  refine AW.cutQ (α := Unit) (fun x => ⟨[], []⟩) (fun x => (True) ∧ (eqBoolS_l0 a b ((List.length a) - 0 + 1) 0) = (.inl ())) ?_ ?_
  ·
   skip
   refine AW.block ?_
   refine AW.loop (α := Nat) (fun x => ⟨[(0, .data (.slice .bool) (a : List Bool)), (1, .data (.slice .bool) (b : List Bool)), (5, .int .i64 ((x : Nat) : Int))], []⟩) (fun x => (True) ∧ ∃ k, (List.length a) - x < k ∧ (eqBoolS_l0 a b ((List.length a) - 0 + 1) 0) = eqBoolS_l0 a b k x) (fun x => (List.length a) - x) 0 (by kernel_rfl) ⟨?_, _, Nat.lt_succ_self _, rfl⟩ ?_
   ·
    show True
    first | exact trivial | (refine ⟨?_, ?_⟩ <;> first | omega | simp) | omega | simp
   ·
    intro i hR
    obtain ⟨hI0, k34, hk32, e33⟩ := hR
    replace hI0 : True := hI0
    replace hk32 : (List.length a) - i < k34 := hk32
    obtain ⟨k34q, rfl⟩ : ∃ k, k34 = k + 1 := ⟨k34 - 1, by omega⟩
    refine AW.seq ?_
    refine AW.seq ?_
    refine AW.reg hC  false [] [0, 1, 5, 14] []
     ⟨[(0, .data (.slice .bool) (a : List Bool)), (1, .data (.slice .bool) (b : List Bool)), (5, .int .i64 ((i : Nat) : Int)), (14, .bool (decide (((i : Nat) : Int) < ((List.length a : Nat) : Int))))], []⟩
     [] (by kernel_rfl) ?_ ?_
    ·
     exact trivial
    refine AW.cond (b := (decide (((i : Nat) : Int) < ((List.length a : Nat) : Int)))) (by kernel_rfl) ?_ ?_
    ·
     intro h35
     have h35q : ((i : Nat) : Int) < ((List.length a : Nat) : Int) := (of_decide_eq_true h35)
     have e36 := e33.trans (Go.Am.bif_t h35)
     refine AW.keep [0, 1, 5] [] ⟨[(0, .data (.slice .bool) (a : List Bool)), (1, .data (.slice .bool) (b : List Bool)), (5, .int .i64 ((i : Nat) : Int))], []⟩ (by kernel_rfl) ?_
     refine AW.skip ?_
     refine AW.seq ?_
     refine AW.block ?_
     refine AW.seq ?_
     refine AW.regD hC hM  false [] [0, 1, 5, 25] []
      ⟨[(0, .data (.slice .bool) (a : List Bool)), (1, .data (.slice .bool) (b : List Bool)), (5, .int .i64 ((i : Nat) : Int)), (25, .bool ((List.getD a i false) != (List.getD b i false)))], []⟩
      [(0 ≤ ((i : Nat) : Int) ∧ ((i : Nat) : Int) < ((List.length a : Nat) : Int)), (0 ≤ ((i : Nat) : Int) ∧ ((i : Nat) : Int) < ((List.length b : Nat) : Int))] (by kernel_rfl) ?_ ?_
     ·
      refine ⟨?_, ?_, trivial⟩
      ·
       first | omega | (dsimp only; omega) | (simp only [lens] at *; omega)
      ·
       first | omega | (dsimp only; omega) | (simp only [lens] at *; omega)
     refine AW.cond (b := ((List.getD a i false) != (List.getD b i false))) (by kernel_rfl) ?_ ?_
     ·
      intro h37
      have h37q : ((List.getD a i false) != (List.getD b i false)) = true := h37
      have e38 := e36.trans (Go.Am.bif_t h37)
      refine AW.seq ?_
      refine AW.reg hC  false [] [4] []
       ⟨[(4, .bool false)], []⟩
       [] (by kernel_rfl) ?_ ?_
      ·
       exact trivial
      refine AW.ret ?_
      have e39 := e4.trans (Go.Am.elim_r e38)
      exact AW.retE (β := Bool) (fun v => [⟨.bool, v⟩]) (fun v => []) (v := false) e39 (by kernel_rfl) rfl rfl
     ·
      intro h40
      have h40q : ((List.getD a i false) != (List.getD b i false)) = false := h40
      have e41 := e36.trans (Go.Am.bif_f h40)
      refine AW.keep [0, 1, 5] [] ⟨[(0, .data (.slice .bool) (a : List Bool)), (1, .data (.slice .bool) (b : List Bool)), (5, .int .i64 ((i : Nat) : Int))], []⟩ (by kernel_rfl) ?_
      refine AW.skip ?_
      refine AW.reg hC  false [] [0, 1, 5] []
       ⟨[(0, .data (.slice .bool) (a : List Bool)), (1, .data (.slice .bool) (b : List Bool)), (5, .int .i64 ((i + 1 : Nat) : Int))], []⟩
       [(-9223372036854775808 ≤ ((i + 1 : Nat) : Int) ∧ ((i + 1 : Nat) : Int) ≤ 9223372036854775807)] (by kernel_rfl) ?_ ?_
      ·
       refine ⟨?_, trivial⟩
       ·
        first | omega | (dsimp only; omega) | (simp only [lens] at *; omega)
      refine AW.back (x := i) (i + 1) (by kernel_rfl) ⟨?_, k34q, ?_, e41⟩ ?_
      ·
       show True
       first | assumption | exact trivial | (refine ⟨?_, ?_⟩ <;> first | omega | (simp only [lens] at *; omega)) | omega | (simp only [lens] at *; omega)
      ·
       show (List.length a) - (i + 1) < k34q
       first | omega | (simp only [lens]; omega)
      ·
       show (List.length a) - (i + 1) < (List.length a) - i
       first | omega | (simp only [lens]; omega)
    ·
     intro h42
     have h42q : ¬ (((i : Nat) : Int) < ((List.length a : Nat) : Int)) := (of_decide_eq_false h42)
     have e43 := e33.trans (Go.Am.bif_f h42)
     refine AW.keep [] [] ⟨[], []⟩ (by kernel_rfl) ?_
     refine AW.exit ?_
     refine AW.meet () (by kernel_rfl) ⟨?_, e43⟩
     show True
     first | assumption | exact trivial | omega
  ·
   intro x hR
   obtain ⟨hJ0, e44⟩ := hR
   replace hJ0 : True := hJ0
   have e45 := e4.trans (Go.Am.elim_l e44)
   refine AW.seq ?_
   refine AW.reg hC  false [] [4] []
    ⟨[(4, .bool true)], []⟩
    [] (by kernel_rfl) ?_ ?_
   ·
    exact trivial
   refine AW.ret ?_
   exact AW.retE (β := Bool) (fun v => [⟨.bool, v⟩]) (fun v => []) (v := true) e45 (by kernel_rfl) rfl rfl

theorem eqBoolS_self (a : List Bool) : eqBoolS a a = true := by
 unfold eqBoolS
 simp only [bne_self_eq_false, cond_false]
 rcases all_loop (eqBoolS_l0 a a) a.length (fun i => (List.getD a i false) != (List.getD a i false)) (fun k i => rfl) (a.length - 0 + 1) 0 (by omega) with ⟨h1, _⟩ | ⟨_, j, _, hj, h2⟩
 ·
  rw [h1]; rfl
 ·
  rw [bne_self_eq_false] at h2
  cases h2

theorem IsDuplicateFree_same (p : Pln) (ws : List Int) (sets : List Bool) : iIsDuplicateFree p ws sets = IsDuplicateFree p ws sets := by
 unfold iIsDuplicateFree IsDuplicateFree
 simp only [Pln.eta, iPlanWidth_eq]
 have hb := widthOf_b p ws
 by_cases h : widthOf p ws = 0
 ·
  rw [h]
  rfl
 ·
  rw [show (widthOf p ws == 0) = false from beq_false_of_ne h, decide_eq_true (show 0 < widthOf p ws by omega)]
  by_cases hs : ((sets.length : Nat) : Int) = ((ws.length : Nat) : Int)
  ·
   rw [show (((sets.length : Nat) : Int) != ((ws.length : Nat) : Int)) = false by simp [hs], show (((sets.length : Nat) : Int) == ((ws.length : Nat) : Int)) = true from beq_iff_eq.2 hs]
   simp only [cond_false, cond_true]
   exact (dup_eq ws sets _ p ⟨PVw.mk' h, by omega⟩).symm
  ·
   rw [show (((sets.length : Nat) : Int) != ((ws.length : Nat) : Int)) = true by simp [hs], show (((sets.length : Nat) : Int) == ((ws.length : Nat) : Int)) = false from beq_false_of_ne hs]
   rfl

def FnExactIsDuplicateFree (aP : Pln) (aWidths : List Int) (aSets : List Bool) : Bool := (bif (decide (1048576 < ((List.length aWidths : Nat) : Int))) then true else (bif (decide (1048576 < ((List.length aSets : Nat) : Int))) then true else (bif (decide ((szPlan (Pln.mk (Pln.Kind aP) (Pln.Table aP) (Pln.Exprs aP) (Pln.Cols aP) (Pln.Kids aP)) 1048576) < 0)) then true else (bif ((iIsDuplicateFree (Pln.mk (Pln.Kind (toPlan (Pln.mk (Pln.Kind aP) (Pln.Table aP) (Pln.Exprs aP) (Pln.Cols aP) (Pln.Kids aP)))) (Pln.Table (toPlan (Pln.mk (Pln.Kind aP) (Pln.Table aP) (Pln.Exprs aP) (Pln.Cols aP) (Pln.Kids aP)))) (Pln.Exprs (toPlan (Pln.mk (Pln.Kind aP) (Pln.Table aP) (Pln.Exprs aP) (Pln.Cols aP) (Pln.Kids aP)))) (Pln.Cols (toPlan (Pln.mk (Pln.Kind aP) (Pln.Table aP) (Pln.Exprs aP) (Pln.Cols aP) (Pln.Kids aP)))) (Pln.Kids (toPlan (Pln.mk (Pln.Kind aP) (Pln.Table aP) (Pln.Exprs aP) (Pln.Cols aP) (Pln.Kids aP))))) (toIntS aWidths) (toBoolS aSets)) != (IsDuplicateFree (toPlan (Pln.mk (Pln.Kind aP) (Pln.Table aP) (Pln.Exprs aP) (Pln.Cols aP) (Pln.Kids aP))) (toIntS aWidths) (toBoolS aSets))) then false else (bif (!(eqPlan (Pln.mk (Pln.Kind (toPlan (Pln.mk (Pln.Kind aP) (Pln.Table aP) (Pln.Exprs aP) (Pln.Cols aP) (Pln.Kids aP)))) (Pln.Table (toPlan (Pln.mk (Pln.Kind aP) (Pln.Table aP) (Pln.Exprs aP) (Pln.Cols aP) (Pln.Kids aP)))) (Pln.Exprs (toPlan (Pln.mk (Pln.Kind aP) (Pln.Table aP) (Pln.Exprs aP) (Pln.Cols aP) (Pln.Kids aP)))) (Pln.Cols (toPlan (Pln.mk (Pln.Kind aP) (Pln.Table aP) (Pln.Exprs aP) (Pln.Cols aP) (Pln.Kids aP)))) (Pln.Kids (toPlan (Pln.mk (Pln.Kind aP) (Pln.Table aP) (Pln.Exprs aP) (Pln.Cols aP) (Pln.Kids aP))))) (toPlan (Pln.mk (Pln.Kind aP) (Pln.Table aP) (Pln.Exprs aP) (Pln.Cols aP) (Pln.Kids aP))))) then false else (bif (!(eqIntS (toIntS aWidths) (toIntS aWidths))) then false else (bif (!(eqBoolS (toBoolS aSets) (toBoolS aSets))) then false else true)))))))

def FnExactIsDuplicateFree_sp : FnSpec := mkSpec [.val (.named 2), .val (.slice (.int .i64)), .val (.slice .bool)] [.val .bool] (fun (aP : Pln) (aWidths : List Int) (aSets : List Bool) => True) (fun (aP : Pln) (aWidths : List Int) (aSets : List Bool) => [⟨.bool, (FnExactIsDuplicateFree aP aWidths aSets)⟩])

theorem FnExactIsDuplicateFree_ok : FnOK Try.prog 8 FnExactIsDuplicateFree_sp := by
 have hC : CtxOK Try.prog (mkCtx tyL [(15, szPlan_sp), (18, toPlan_sp), (21, eqPlan_sp), (30, toIntS_sp), (33, eqBoolS_sp), (34, eqIntS_sp), (46, IsDuplicateFree_sp), (47, toBoolS_sp), (48, iIsDuplicateFree_sp)]) := CtxOK.cons szPlan_ok (CtxOK.cons toPlan_ok (CtxOK.cons eqPlan_ok (CtxOK.cons toIntS_ok (CtxOK.cons eqBoolS_ok (CtxOK.cons eqIntS_ok (CtxOK.cons IsDuplicateFree_ok (CtxOK.cons toBoolS_ok (CtxOK.cons iIsDuplicateFree_ok (CtxOK.nil tyOK)))))))))
 have hM : Try.prog.follows .mixedOrders = true := Try.checked.mixed
 refine FnOK.of_body Try.func8 (by kernel_rfl) rfl (C := (mkCtx tyL [(15, szPlan_sp), (18, toPlan_sp), (21, eqPlan_sp), (30, toIntS_sp), (33, eqBoolS_sp), (34, eqIntS_sp), (46, IsDuplicateFree_sp), (47, toBoolS_sp), (48, iIsDuplicateFree_sp)])) hC.ty (by kernel_rfl) ?_
 intro (aP : Pln) (aWidths : List Int) (aSets : List Bool) hwf hpre E
 have hpre : True := hpre
 have hw_aP : Wf ⟨(.named 2), (aP : Pln)⟩ := hwf _ (List.Mem.head _)
 have hr_aP_Kind : -9223372036854775808 ≤ Pln.Kind aP ∧ Pln.Kind aP ≤ 9223372036854775807 := (hw_aP.field (tv := ⟨(.int .i64), Pln.Kind aP⟩) (List.Mem.head _)).int_inv
 have hr_aP_Table : -9223372036854775808 ≤ Pln.Table aP ∧ Pln.Table aP ≤ 9223372036854775807 := (hw_aP.field (tv := ⟨(.int .i64), Pln.Table aP⟩) (List.Mem.tail _ (List.Mem.head _))).int_inv
 have hl_aP_Exprs : ((List.length (Pln.Exprs aP) : Nat) : Int) ≤ 9223372036854775807 := (hw_aP.field (tv := ⟨(.slice (.named 1)), Pln.Exprs aP⟩) (List.Mem.tail _ (List.Mem.tail _ (List.Mem.head _)))).len
 have hl_aP_Cols : ((List.length (Pln.Cols aP) : Nat) : Int) ≤ 9223372036854775807 := (hw_aP.field (tv := ⟨(.slice (.int .i64)), Pln.Cols aP⟩) (List.Mem.tail _ (List.Mem.tail _ (List.Mem.tail _ (List.Mem.head _))))).len
 have hl_aP_Kids : ((List.length (Pln.Kids aP) : Nat) : Int) ≤ 9223372036854775807 := (hw_aP.field (tv := ⟨(.slice (.named 2)), Pln.Kids aP⟩) (List.Mem.tail _ (List.Mem.tail _ (List.Mem.tail _ (List.Mem.tail _ (List.Mem.head _)))))).len
 have hw_aWidths : Wf ⟨(.slice (.int .i64)), (aWidths : List Int)⟩ := hwf _ (List.Mem.tail _ (List.Mem.head _))
 have hl_aWidths : ((List.length aWidths : Nat) : Int) ≤ 9223372036854775807 := hw_aWidths.len
 have hw_aSets : Wf ⟨(.slice .bool), (aSets : List Bool)⟩ := hwf _ (List.Mem.tail _ (List.Mem.tail _ (List.Mem.head _)))
 have hl_aSets : ((List.length aSets : Nat) : Int) ≤ 9223372036854775807 := hw_aSets.len
 have e0 : FnExactIsDuplicateFree aP aWidths aSets = FnExactIsDuplicateFree aP aWidths aSets := rfl
 refine AW.seq ?_
 refine AW.reg hC  false [] [1, 2, 3] [12]
  ⟨[(1, .data (.slice (.int .i64)) (aWidths : List Int)), (2, .data (.slice .bool) (aSets : List Bool)), (3, .ref 12 1 0)], [(12, .box 1 [.int .i64 (Pln.Kind aP), .int .i64 (Pln.Table aP), .data (.slice (.named 1)) ((Pln.Exprs aP) : List Xpr), .data (.slice (.int .i64)) ((Pln.Cols aP) : List Int), .data (.slice (.named 2)) ((Pln.Kids aP) : List Pln)])]⟩
  [] (by kernel_rfl) ?_ ?_
 ·
  exact trivial
 refine AW.seq ?_
 refine AW.seq ?_
 refine AW.reg hC  false [] [1, 2, 3, 15] [12]
  ⟨[(1, .data (.slice (.int .i64)) (aWidths : List Int)), (2, .data (.slice .bool) (aSets : List Bool)), (3, .ref 12 1 0), (15, .bool (decide (1048576 < ((List.length aWidths : Nat) : Int))))], [(12, .box 1 [.int .i64 (Pln.Kind aP), .int .i64 (Pln.Table aP), .data (.slice (.named 1)) ((Pln.Exprs aP) : List Xpr), .data (.slice (.int .i64)) ((Pln.Cols aP) : List Int), .data (.slice (.named 2)) ((Pln.Kids aP) : List Pln)])]⟩
  [] (by kernel_rfl) ?_ ?_
 ·
  exact trivial
 refine AW.cond (b := (decide (1048576 < ((List.length aWidths : Nat) : Int)))) (by kernel_rfl) ?_ ?_
 ·
  intro h1
  have h1q : 1048576 < ((List.length aWidths : Nat) : Int) := (of_decide_eq_true h1)
  have e2 := e0.trans (Go.Am.bif_t h1)
  refine AW.seq ?_
  refine AW.reg hC  false [] [6] []
   ⟨[(6, .bool true)], []⟩
   [] (by kernel_rfl) ?_ ?_
  ·
   exact trivial
  refine AW.ret ?_
  exact AW.retE (β := Bool) (fun v => [⟨.bool, v⟩]) (fun v => []) (v := true) e2 (by kernel_rfl) rfl rfl
 ·
  intro h3
  have h3q : ¬ (1048576 < ((List.length aWidths : Nat) : Int)) := (of_decide_eq_false h3)
  have e4 := e0.trans (Go.Am.bif_f h3)
  refine AW.keep [1, 2, 3] [12] ⟨[(1, .data (.slice (.int .i64)) (aWidths : List Int)), (2, .data (.slice .bool) (aSets : List Bool)), (3, .ref 12 1 0)], [(12, .box 1 [.int .i64 (Pln.Kind aP), .int .i64 (Pln.Table aP), .data (.slice (.named 1)) ((Pln.Exprs aP) : List Xpr), .data (.slice (.int .i64)) ((Pln.Cols aP) : List Int), .data (.slice (.named 2)) ((Pln.Kids aP) : List Pln)])]⟩ (by kernel_rfl) ?_
  refine AW.skip ?_
  refine AW.seq ?_
  refine AW.seq ?_
  refine AW.reg hC  false [] [1, 2, 3, 18] [12]
   ⟨[(1, .data (.slice (.int .i64)) (aWidths : List Int)), (2, .data (.slice .bool) (aSets : List Bool)), (3, .ref 12 1 0), (18, .bool (decide (1048576 < ((List.length aSets : Nat) : Int))))], [(12, .box 1 [.int .i64 (Pln.Kind aP), .int .i64 (Pln.Table aP), .data (.slice (.named 1)) ((Pln.Exprs aP) : List Xpr), .data (.slice (.int .i64)) ((Pln.Cols aP) : List Int), .data (.slice (.named 2)) ((Pln.Kids aP) : List Pln)])]⟩
   [] (by kernel_rfl) ?_ ?_
  ·
   exact trivial
  refine AW.cond (b := (decide (1048576 < ((List.length aSets : Nat) : Int)))) (by kernel_rfl) ?_ ?_
  ·
   intro h5
   have h5q : 1048576 < ((List.length aSets : Nat) : Int) := (of_decide_eq_true h5)
   have e6 := e4.trans (Go.Am.bif_t h5)
   refine AW.seq ?_
   refine AW.reg hC  false [] [6] []
    ⟨[(6, .bool true)], []⟩
    [] (by kernel_rfl) ?_ ?_
   ·
    exact trivial
   refine AW.ret ?_
   exact AW.retE (β := Bool) (fun v => [⟨.bool, v⟩]) (fun v => []) (v := true) e6 (by kernel_rfl) rfl rfl
  ·
   intro h7
   have h7q : ¬ (1048576 < ((List.length aSets : Nat) : Int)) := (of_decide_eq_false h7)
   have e8 := e4.trans (Go.Am.bif_f h7)
   refine AW.keep [1, 2, 3] [12] ⟨[(1, .data (.slice (.int .i64)) (aWidths : List Int)), (2, .data (.slice .bool) (aSets : List Bool)), (3, .ref 12 1 0)], [(12, .box 1 [.int .i64 (Pln.Kind aP), .int .i64 (Pln.Table aP), .data (.slice (.named 1)) ((Pln.Exprs aP) : List Xpr), .data (.slice (.int .i64)) ((Pln.Cols aP) : List Int), .data (.slice (.named 2)) ((Pln.Kids aP) : List Pln)])]⟩ (by kernel_rfl) ?_
   refine AW.skip ?_
   refine AW.seq ?_
   refine AW.reg hC  false [] [1, 2, 3, 7] [12]
    ⟨[(1, .data (.slice (.int .i64)) (aWidths : List Int)), (2, .data (.slice .bool) (aSets : List Bool)), (3, .ref 12 1 0), (7, .int .i64 1048576)], [(12, .box 1 [.int .i64 (Pln.Kind aP), .int .i64 (Pln.Table aP), .data (.slice (.named 1)) ((Pln.Exprs aP) : List Xpr), .data (.slice (.int .i64)) ((Pln.Cols aP) : List Int), .data (.slice (.named 2)) ((Pln.Kids aP) : List Pln)])]⟩
    [] (by kernel_rfl) ?_ ?_
   ·
    exact trivial
   refine AW.seq ?_
   refine AW.reg hC  false [] [1, 2, 3, 7] [12]
    ⟨[(1, .data (.slice (.int .i64)) (aWidths : List Int)), (2, .data (.slice .bool) (aSets : List Bool)), (3, .ref 12 1 0), (7, .int .i64 (szPlan (Pln.mk (Pln.Kind aP) (Pln.Table aP) (Pln.Exprs aP) (Pln.Cols aP) (Pln.Kids aP)) 1048576))], [(12, .box 1 [.int .i64 (Pln.Kind aP), .int .i64 (Pln.Table aP), .data (.slice (.named 1)) ((Pln.Exprs aP) : List Xpr), .data (.slice (.int .i64)) ((Pln.Cols aP) : List Int), .data (.slice (.named 2)) ((Pln.Kids aP) : List Pln)])]⟩
    [(0 ≤ (1048576 : Int))] (by kernel_rfl) ?_ ?_
   ·
    refine ⟨?_, trivial⟩
    ·
     first | omega | assumption
   refine AW.seq ?_
   refine AW.seq ?_
   refine AW.reg hC  false [] [1, 2, 3, 23] [12]
    ⟨[(1, .data (.slice (.int .i64)) (aWidths : List Int)), (2, .data (.slice .bool) (aSets : List Bool)), (3, .ref 12 1 0), (23, .bool (decide ((szPlan (Pln.mk (Pln.Kind aP) (Pln.Table aP) (Pln.Exprs aP) (Pln.Cols aP) (Pln.Kids aP)) 1048576) < 0)))], [(12, .box 1 [.int .i64 (Pln.Kind aP), .int .i64 (Pln.Table aP), .data (.slice (.named 1)) ((Pln.Exprs aP) : List Xpr), .data (.slice (.int .i64)) ((Pln.Cols aP) : List Int), .data (.slice (.named 2)) ((Pln.Kids aP) : List Pln)])]⟩
    [] (by kernel_rfl) ?_ ?_
   ·
    exact trivial
   refine AW.cond (b := (decide ((szPlan (Pln.mk (Pln.Kind aP) (Pln.Table aP) (Pln.Exprs aP) (Pln.Cols aP) (Pln.Kids aP)) 1048576) < 0))) (by kernel_rfl) ?_ ?_
   ·
    intro h9
    have h9q : (szPlan (Pln.mk (Pln.Kind aP) (Pln.Table aP) (Pln.Exprs aP) (Pln.Cols aP) (Pln.Kids aP)) 1048576) < 0 := (of_decide_eq_true h9)
    have e10 := e8.trans (Go.Am.bif_t h9)
    refine AW.seq ?_
    refine AW.reg hC  false [] [6] []
     ⟨[(6, .bool true)], []⟩
     [] (by kernel_rfl) ?_ ?_
    ·
     exact trivial
    refine AW.ret ?_
    exact AW.retE (β := Bool) (fun v => [⟨.bool, v⟩]) (fun v => []) (v := true) e10 (by kernel_rfl) rfl rfl
   ·
    intro h11
    have h11q : ¬ ((szPlan (Pln.mk (Pln.Kind aP) (Pln.Table aP) (Pln.Exprs aP) (Pln.Cols aP) (Pln.Kids aP)) 1048576) < 0) := (of_decide_eq_false h11)
    have e12 := e8.trans (Go.Am.bif_f h11)
    refine AW.keep [1, 2, 3] [12] ⟨[(1, .data (.slice (.int .i64)) (aWidths : List Int)), (2, .data (.slice .bool) (aSets : List Bool)), (3, .ref 12 1 0)], [(12, .box 1 [.int .i64 (Pln.Kind aP), .int .i64 (Pln.Table aP), .data (.slice (.named 1)) ((Pln.Exprs aP) : List Xpr), .data (.slice (.int .i64)) ((Pln.Cols aP) : List Int), .data (.slice (.named 2)) ((Pln.Kids aP) : List Pln)])]⟩ (by kernel_rfl) ?_
    refine AW.skip ?_
    refine AW.seq ?_
    refine AW.reg hC  false [] [1, 2, 3, 8] [12]
     ⟨[(1, .data (.slice (.int .i64)) (aWidths : List Int)), (2, .data (.slice .bool) (aSets : List Bool)), (3, .ref 12 1 0), (8, .bool (IsDuplicateFree (toPlan (Pln.mk (Pln.Kind aP) (Pln.Table aP) (Pln.Exprs aP) (Pln.Cols aP) (Pln.Kids aP))) (toIntS aWidths) (toBoolS aSets)))], [(12, .box 1 [.int .i64 (Pln.Kind aP), .int .i64 (Pln.Table aP), .data (.slice (.named 1)) ((Pln.Exprs aP) : List Xpr), .data (.slice (.int .i64)) ((Pln.Cols aP) : List Int), .data (.slice (.named 2)) ((Pln.Kids aP) : List Pln)])]⟩
     [(FitsP (Pln.mk (Pln.Kind aP) (Pln.Table aP) (Pln.Exprs aP) (Pln.Cols aP) (Pln.Kids aP))), ((List.length aWidths : Int) ≤ 1048576), ((List.length aSets : Int) ≤ 1048576), (True)] (by kernel_rfl) ?_ ?_
    ·
     refine ⟨?_, ?_, ?_, ?_, trivial⟩
     ·
      exact FitsP.of (l := 1048576) ⟨by decide, by decide⟩ (by first | exact h11q | exact h7q | exact h3q | exact trivial | exact trivial | exact trivial)
     ·
      first | omega | assumption
     ·
      first | omega | assumption
     ·
      trivial
    refine AW.seq ?_
    refine AW.reg hC  false [] [1, 2, 3, 8, 9] [12, 36]
     ⟨[(1, .data (.slice (.int .i64)) (aWidths : List Int)), (2, .data (.slice .bool) (aSets : List Bool)), (3, .ref 12 1 0), (8, .bool (IsDuplicateFree (toPlan (Pln.mk (Pln.Kind aP) (Pln.Table aP) (Pln.Exprs aP) (Pln.Cols aP) (Pln.Kids aP))) (toIntS aWidths) (toBoolS aSets))), (9, .ref 36 1 0)], [(12, .box 1 [.int .i64 (Pln.Kind aP), .int .i64 (Pln.Table aP), .data (.slice (.named 1)) ((Pln.Exprs aP) : List Xpr), .data (.slice (.int .i64)) ((Pln.Cols aP) : List Int), .data (.slice (.named 2)) ((Pln.Kids aP) : List Pln)]), (36, .box 1 [.int .i64 (Pln.Kind (toPlan (Pln.mk (Pln.Kind aP) (Pln.Table aP) (Pln.Exprs aP) (Pln.Cols aP) (Pln.Kids aP)))), .int .i64 (Pln.Table (toPlan (Pln.mk (Pln.Kind aP) (Pln.Table aP) (Pln.Exprs aP) (Pln.Cols aP) (Pln.Kids aP)))), .data (.slice (.named 1)) ((Pln.Exprs (toPlan (Pln.mk (Pln.Kind aP) (Pln.Table aP) (Pln.Exprs aP) (Pln.Cols aP) (Pln.Kids aP)))) : List Xpr), .data (.slice (.int .i64)) ((Pln.Cols (toPlan (Pln.mk (Pln.Kind aP) (Pln.Table aP) (Pln.Exprs aP) (Pln.Cols aP) (Pln.Kids aP)))) : List Int), .data (.slice (.named 2)) ((Pln.Kids (toPlan (Pln.mk (Pln.Kind aP) (Pln.Table aP) (Pln.Exprs aP) (Pln.Cols aP) (Pln.Kids aP)))) : List Pln)])]⟩
     [(FitsP (Pln.mk (Pln.Kind aP) (Pln.Table aP) (Pln.Exprs aP) (Pln.Cols aP) (Pln.Kids aP)))] (by kernel_rfl) ?_ ?_
    ·
     refine ⟨?_, trivial⟩
     ·
      exact FitsP.of (l := 1048576) ⟨by decide, by decide⟩ (by first | exact h11q | exact h7q | exact h3q | exact trivial | exact trivial | exact trivial)
    refine AW.seq ?_
    refine AW.reg hC  false [] [1, 2, 3, 8, 9, 10] [12, 36, 136]
     ⟨[(1, .data (.slice (.int .i64)) (aWidths : List Int)), (2, .data (.slice .bool) (aSets : List Bool)), (3, .ref 12 1 0), (8, .bool (IsDuplicateFree (toPlan (Pln.mk (Pln.Kind aP) (Pln.Table aP) (Pln.Exprs aP) (Pln.Cols aP) (Pln.Kids aP))) (toIntS aWidths) (toBoolS aSets))), (9, .ref 36 1 0), (10, .arr 136 1)], [(12, .box 1 [.int .i64 (Pln.Kind aP), .int .i64 (Pln.Table aP), .data (.slice (.named 1)) ((Pln.Exprs aP) : List Xpr), .data (.slice (.int .i64)) ((Pln.Cols aP) : List Int), .data (.slice (.named 2)) ((Pln.Kids aP) : List Pln)]), (36, .box 1 [.int .i64 (Pln.Kind (toPlan (Pln.mk (Pln.Kind aP) (Pln.Table aP) (Pln.Exprs aP) (Pln.Cols aP) (Pln.Kids aP)))), .int .i64 (Pln.Table (toPlan (Pln.mk (Pln.Kind aP) (Pln.Table aP) (Pln.Exprs aP) (Pln.Cols aP) (Pln.Kids aP)))), .data (.slice (.named 1)) ((Pln.Exprs (toPlan (Pln.mk (Pln.Kind aP) (Pln.Table aP) (Pln.Exprs aP) (Pln.Cols aP) (Pln.Kids aP)))) : List Xpr), .data (.slice (.int .i64)) ((Pln.Cols (toPlan (Pln.mk (Pln.Kind aP) (Pln.Table aP) (Pln.Exprs aP) (Pln.Cols aP) (Pln.Kids aP)))) : List Int), .data (.slice (.named 2)) ((Pln.Kids (toPlan (Pln.mk (Pln.Kind aP) (Pln.Table aP) (Pln.Exprs aP) (Pln.Cols aP) (Pln.Kids aP)))) : List Pln)]), (136, .arr 1 (.int .i64) ((toIntS aWidths) : List Int))]⟩
     [((List.length aWidths : Int) ≤ 1048576)] (by kernel_rfl) ?_ ?_
    ·
     refine ⟨?_, trivial⟩
     ·
      first | omega | assumption
    refine AW.seq ?_
    refine AW.reg hC  false [] [1, 2, 3, 8, 9, 10, 11] [12, 36, 136, 144]
     ⟨[(1, .data (.slice (.int .i64)) (aWidths : List Int)), (2, .data (.slice .bool) (aSets : List Bool)), (3, .ref 12 1 0), (8, .bool (IsDuplicateFree (toPlan (Pln.mk (Pln.Kind aP) (Pln.Table aP) (Pln.Exprs aP) (Pln.Cols aP) (Pln.Kids aP))) (toIntS aWidths) (toBoolS aSets))), (9, .ref 36 1 0), (10, .arr 136 1), (11, .arr 144 1)], [(12, .box 1 [.int .i64 (Pln.Kind aP), .int .i64 (Pln.Table aP), .data (.slice (.named 1)) ((Pln.Exprs aP) : List Xpr), .data (.slice (.int .i64)) ((Pln.Cols aP) : List Int), .data (.slice (.named 2)) ((Pln.Kids aP) : List Pln)]), (36, .box 1 [.int .i64 (Pln.Kind (toPlan (Pln.mk (Pln.Kind aP) (Pln.Table aP) (Pln.Exprs aP) (Pln.Cols aP) (Pln.Kids aP)))), .int .i64 (Pln.Table (toPlan (Pln.mk (Pln.Kind aP) (Pln.Table aP) (Pln.Exprs aP) (Pln.Cols aP) (Pln.Kids aP)))), .data (.slice (.named 1)) ((Pln.Exprs (toPlan (Pln.mk (Pln.Kind aP) (Pln.Table aP) (Pln.Exprs aP) (Pln.Cols aP) (Pln.Kids aP)))) : List Xpr), .data (.slice (.int .i64)) ((Pln.Cols (toPlan (Pln.mk (Pln.Kind aP) (Pln.Table aP) (Pln.Exprs aP) (Pln.Cols aP) (Pln.Kids aP)))) : List Int), .data (.slice (.named 2)) ((Pln.Kids (toPlan (Pln.mk (Pln.Kind aP) (Pln.Table aP) (Pln.Exprs aP) (Pln.Cols aP) (Pln.Kids aP)))) : List Pln)]), (136, .arr 1 (.int .i64) ((toIntS aWidths) : List Int)), (144, .arr 1 .bool ((toBoolS aSets) : List Bool))]⟩
     [((List.length aSets : Int) ≤ 1048576)] (by kernel_rfl) ?_ ?_
    ·
     refine ⟨?_, trivial⟩
     ·
      first | omega | assumption
    refine AW.seq ?_
    refine AW.reg hC  false [] [1, 2, 3, 8, 9, 10, 11, 12] [12, 36, 136, 144]
     ⟨[(1, .data (.slice (.int .i64)) (aWidths : List Int)), (2, .data (.slice .bool) (aSets : List Bool)), (3, .ref 12 1 0), (8, .bool (IsDuplicateFree (toPlan (Pln.mk (Pln.Kind aP) (Pln.Table aP) (Pln.Exprs aP) (Pln.Cols aP) (Pln.Kids aP))) (toIntS aWidths) (toBoolS aSets))), (9, .ref 36 1 0), (10, .arr 136 1), (11, .arr 144 1), (12, .bool (iIsDuplicateFree (Pln.mk (Pln.Kind (toPlan (Pln.mk (Pln.Kind aP) (Pln.Table aP) (Pln.Exprs aP) (Pln.Cols aP) (Pln.Kids aP)))) (Pln.Table (toPlan (Pln.mk (Pln.Kind aP) (Pln.Table aP) (Pln.Exprs aP) (Pln.Cols aP) (Pln.Kids aP)))) (Pln.Exprs (toPlan (Pln.mk (Pln.Kind aP) (Pln.Table aP) (Pln.Exprs aP) (Pln.Cols aP) (Pln.Kids aP)))) (Pln.Cols (toPlan (Pln.mk (Pln.Kind aP) (Pln.Table aP) (Pln.Exprs aP) (Pln.Cols aP) (Pln.Kids aP)))) (Pln.Kids (toPlan (Pln.mk (Pln.Kind aP) (Pln.Table aP) (Pln.Exprs aP) (Pln.Cols aP) (Pln.Kids aP))))) (toIntS aWidths) (toBoolS aSets)))], [(12, .box 1 [.int .i64 (Pln.Kind aP), .int .i64 (Pln.Table aP), .data (.slice (.named 1)) ((Pln.Exprs aP) : List Xpr), .data (.slice (.int .i64)) ((Pln.Cols aP) : List Int), .data (.slice (.named 2)) ((Pln.Kids aP) : List Pln)]), (36, .box 1 [.int .i64 (Pln.Kind (toPlan (Pln.mk (Pln.Kind aP) (Pln.Table aP) (Pln.Exprs aP) (Pln.Cols aP) (Pln.Kids aP)))), .int .i64 (Pln.Table (toPlan (Pln.mk (Pln.Kind aP) (Pln.Table aP) (Pln.Exprs aP) (Pln.Cols aP) (Pln.Kids aP)))), .data (.slice (.named 1)) ((Pln.Exprs (toPlan (Pln.mk (Pln.Kind aP) (Pln.Table aP) (Pln.Exprs aP) (Pln.Cols aP) (Pln.Kids aP)))) : List Xpr), .data (.slice (.int .i64)) ((Pln.Cols (toPlan (Pln.mk (Pln.Kind aP) (Pln.Table aP) (Pln.Exprs aP) (Pln.Cols aP) (Pln.Kids aP)))) : List Int), .data (.slice (.named 2)) ((Pln.Kids (toPlan (Pln.mk (Pln.Kind aP) (Pln.Table aP) (Pln.Exprs aP) (Pln.Cols aP) (Pln.Kids aP)))) : List Pln)]), (136, .arr 1 (.int .i64) ((toIntS aWidths) : List Int)), (144, .arr 1 .bool ((toBoolS aSets) : List Bool))]⟩
     [(True)] (by kernel_rfl) ?_ ?_
    ·
     refine ⟨?_, trivial⟩
     ·
      trivial
    refine AW.seq ?_
    refine AW.seq ?_
    refine AW.reg hC  false [] [1, 2, 3, 9, 10, 11, 43] [12, 36, 136, 144]
     ⟨[(1, .data (.slice (.int .i64)) (aWidths : List Int)), (2, .data (.slice .bool) (aSets : List Bool)), (3, .ref 12 1 0), (9, .ref 36 1 0), (10, .arr 136 1), (11, .arr 144 1), (43, .bool ((iIsDuplicateFree (Pln.mk (Pln.Kind (toPlan (Pln.mk (Pln.Kind aP) (Pln.Table aP) (Pln.Exprs aP) (Pln.Cols aP) (Pln.Kids aP)))) (Pln.Table (toPlan (Pln.mk (Pln.Kind aP) (Pln.Table aP) (Pln.Exprs aP) (Pln.Cols aP) (Pln.Kids aP)))) (Pln.Exprs (toPlan (Pln.mk (Pln.Kind aP) (Pln.Table aP) (Pln.Exprs aP) (Pln.Cols aP) (Pln.Kids aP)))) (Pln.Cols (toPlan (Pln.mk (Pln.Kind aP) (Pln.Table aP) (Pln.Exprs aP) (Pln.Cols aP) (Pln.Kids aP)))) (Pln.Kids (toPlan (Pln.mk (Pln.Kind aP) (Pln.Table aP) (Pln.Exprs aP) (Pln.Cols aP) (Pln.Kids aP))))) (toIntS aWidths) (toBoolS aSets)) != (IsDuplicateFree (toPlan (Pln.mk (Pln.Kind aP) (Pln.Table aP) (Pln.Exprs aP) (Pln.Cols aP) (Pln.Kids aP))) (toIntS aWidths) (toBoolS aSets))))], [(12, .box 1 [.int .i64 (Pln.Kind aP), .int .i64 (Pln.Table aP), .data (.slice (.named 1)) ((Pln.Exprs aP) : List Xpr), .data (.slice (.int .i64)) ((Pln.Cols aP) : List Int), .data (.slice (.named 2)) ((Pln.Kids aP) : List Pln)]), (36, .box 1 [.int .i64 (Pln.Kind (toPlan (Pln.mk (Pln.Kind aP) (Pln.Table aP) (Pln.Exprs aP) (Pln.Cols aP) (Pln.Kids aP)))), .int .i64 (Pln.Table (toPlan (Pln.mk (Pln.Kind aP) (Pln.Table aP) (Pln.Exprs aP) (Pln.Cols aP) (Pln.Kids aP)))), .data (.slice (.named 1)) ((Pln.Exprs (toPlan (Pln.mk (Pln.Kind aP) (Pln.Table aP) (Pln.Exprs aP) (Pln.Cols aP) (Pln.Kids aP)))) : List Xpr), .data (.slice (.int .i64)) ((Pln.Cols (toPlan (Pln.mk (Pln.Kind aP) (Pln.Table aP) (Pln.Exprs aP) (Pln.Cols aP) (Pln.Kids aP)))) : List Int), .data (.slice (.named 2)) ((Pln.Kids (toPlan (Pln.mk (Pln.Kind aP) (Pln.Table aP) (Pln.Exprs aP) (Pln.Cols aP) (Pln.Kids aP)))) : List Pln)]), (136, .arr 1 (.int .i64) ((toIntS aWidths) : List Int)), (144, .arr 1 .bool ((toBoolS aSets) : List Bool))]⟩
     [] (by kernel_rfl) ?_ ?_
    ·
     exact trivial
    refine AW.cond (b := ((iIsDuplicateFree (Pln.mk (Pln.Kind (toPlan (Pln.mk (Pln.Kind aP) (Pln.Table aP) (Pln.Exprs aP) (Pln.Cols aP) (Pln.Kids aP)))) (Pln.Table (toPlan (Pln.mk (Pln.Kind aP) (Pln.Table aP) (Pln.Exprs aP) (Pln.Cols aP) (Pln.Kids aP)))) (Pln.Exprs (toPlan (Pln.mk (Pln.Kind aP) (Pln.Table aP) (Pln.Exprs aP) (Pln.Cols aP) (Pln.Kids aP)))) (Pln.Cols (toPlan (Pln.mk (Pln.Kind aP) (Pln.Table aP) (Pln.Exprs aP) (Pln.Cols aP) (Pln.Kids aP)))) (Pln.Kids (toPlan (Pln.mk (Pln.Kind aP) (Pln.Table aP) (Pln.Exprs aP) (Pln.Cols aP) (Pln.Kids aP))))) (toIntS aWidths) (toBoolS aSets)) != (IsDuplicateFree (toPlan (Pln.mk (Pln.Kind aP) (Pln.Table aP) (Pln.Exprs aP) (Pln.Cols aP) (Pln.Kids aP))) (toIntS aWidths) (toBoolS aSets)))) (by kernel_rfl) ?_ ?_
    ·
     intro h13
     have h13q : ((iIsDuplicateFree (Pln.mk (Pln.Kind (toPlan (Pln.mk (Pln.Kind aP) (Pln.Table aP) (Pln.Exprs aP) (Pln.Cols aP) (Pln.Kids aP)))) (Pln.Table (toPlan (Pln.mk (Pln.Kind aP) (Pln.Table aP) (Pln.Exprs aP) (Pln.Cols aP) (Pln.Kids aP)))) (Pln.Exprs (toPlan (Pln.mk (Pln.Kind aP) (Pln.Table aP) (Pln.Exprs aP) (Pln.Cols aP) (Pln.Kids aP)))) (Pln.Cols (toPlan (Pln.mk (Pln.Kind aP) (Pln.Table aP) (Pln.Exprs aP) (Pln.Cols aP) (Pln.Kids aP)))) (Pln.Kids (toPlan (Pln.mk (Pln.Kind aP) (Pln.Table aP) (Pln.Exprs aP) (Pln.Cols aP) (Pln.Kids aP))))) (toIntS aWidths) (toBoolS aSets)) != (IsDuplicateFree (toPlan (Pln.mk (Pln.Kind aP) (Pln.Table aP) (Pln.Exprs aP) (Pln.Cols aP) (Pln.Kids aP))) (toIntS aWidths) (toBoolS aSets))) = true := h13
     have e14 := e12.trans (Go.Am.bif_t h13)
     refine AW.seq ?_
     refine AW.reg hC  false [] [6] []
      ⟨[(6, .bool false)], []⟩
      [] (by kernel_rfl) ?_ ?_
     ·
      exact trivial
     refine AW.ret ?_
     exact AW.retE (β := Bool) (fun v => [⟨.bool, v⟩]) (fun v => []) (v := false) e14 (by kernel_rfl) rfl rfl
    ·
     intro h15
     have h15q : ((iIsDuplicateFree (Pln.mk (Pln.Kind (toPlan (Pln.mk (Pln.Kind aP) (Pln.Table aP) (Pln.Exprs aP) (Pln.Cols aP) (Pln.Kids aP)))) (Pln.Table (toPlan (Pln.mk (Pln.Kind aP) (Pln.Table aP) (Pln.Exprs aP) (Pln.Cols aP) (Pln.Kids aP)))) (Pln.Exprs (toPlan (Pln.mk (Pln.Kind aP) (Pln.Table aP) (Pln.Exprs aP) (Pln.Cols aP) (Pln.Kids aP)))) (Pln.Cols (toPlan (Pln.mk (Pln.Kind aP) (Pln.Table aP) (Pln.Exprs aP) (Pln.Cols aP) (Pln.Kids aP)))) (Pln.Kids (toPlan (Pln.mk (Pln.Kind aP) (Pln.Table aP) (Pln.Exprs aP) (Pln.Cols aP) (Pln.Kids aP))))) (toIntS aWidths) (toBoolS aSets)) != (IsDuplicateFree (toPlan (Pln.mk (Pln.Kind aP) (Pln.Table aP) (Pln.Exprs aP) (Pln.Cols aP) (Pln.Kids aP))) (toIntS aWidths) (toBoolS aSets))) = false := h15
     have e16 := e12.trans (Go.Am.bif_f h15)
     refine AW.keep [1, 2, 3, 9, 10, 11] [12, 36, 136, 144] ⟨[(1, .data (.slice (.int .i64)) (aWidths : List Int)), (2, .data (.slice .bool) (aSets : List Bool)), (3, .ref 12 1 0), (9, .ref 36 1 0), (10, .arr 136 1), (11, .arr 144 1)], [(12, .box 1 [.int .i64 (Pln.Kind aP), .int .i64 (Pln.Table aP), .data (.slice (.named 1)) ((Pln.Exprs aP) : List Xpr), .data (.slice (.int .i64)) ((Pln.Cols aP) : List Int), .data (.slice (.named 2)) ((Pln.Kids aP) : List Pln)]), (36, .box 1 [.int .i64 (Pln.Kind (toPlan (Pln.mk (Pln.Kind aP) (Pln.Table aP) (Pln.Exprs aP) (Pln.Cols aP) (Pln.Kids aP)))), .int .i64 (Pln.Table (toPlan (Pln.mk (Pln.Kind aP) (Pln.Table aP) (Pln.Exprs aP) (Pln.Cols aP) (Pln.Kids aP)))), .data (.slice (.named 1)) ((Pln.Exprs (toPlan (Pln.mk (Pln.Kind aP) (Pln.Table aP) (Pln.Exprs aP) (Pln.Cols aP) (Pln.Kids aP)))) : List Xpr), .data (.slice (.int .i64)) ((Pln.Cols (toPlan (Pln.mk (Pln.Kind aP) (Pln.Table aP) (Pln.Exprs aP) (Pln.Cols aP) (Pln.Kids aP)))) : List Int), .data (.slice (.named 2)) ((Pln.Kids (toPlan (Pln.mk (Pln.Kind aP) (Pln.Table aP) (Pln.Exprs aP) (Pln.Cols aP) (Pln.Kids aP)))) : List Pln)]), (136, .arr 1 (.int .i64) ((toIntS aWidths) : List Int)), (144, .arr 1 .bool ((toBoolS aSets) : List Bool))]⟩ (by kernel_rfl) ?_
     refine AW.skip ?_
     refine AW.seq ?_
     refine AW.seq ?_
     refine AW.regD hC hM  false [] [1, 2, 10, 11, 48] [136, 144]
      ⟨[(1, .data (.slice (.int .i64)) (aWidths : List Int)), (2, .data (.slice .bool) (aSets : List Bool)), (10, .arr 136 1), (11, .arr 144 1), (48, .bool (!(eqPlan (Pln.mk (Pln.Kind (toPlan (Pln.mk (Pln.Kind aP) (Pln.Table aP) (Pln.Exprs aP) (Pln.Cols aP) (Pln.Kids aP)))) (Pln.Table (toPlan (Pln.mk (Pln.Kind aP) (Pln.Table aP) (Pln.Exprs aP) (Pln.Cols aP) (Pln.Kids aP)))) (Pln.Exprs (toPlan (Pln.mk (Pln.Kind aP) (Pln.Table aP) (Pln.Exprs aP) (Pln.Cols aP) (Pln.Kids aP)))) (Pln.Cols (toPlan (Pln.mk (Pln.Kind aP) (Pln.Table aP) (Pln.Exprs aP) (Pln.Cols aP) (Pln.Kids aP)))) (Pln.Kids (toPlan (Pln.mk (Pln.Kind aP) (Pln.Table aP) (Pln.Exprs aP) (Pln.Cols aP) (Pln.Kids aP))))) (toPlan (Pln.mk (Pln.Kind aP) (Pln.Table aP) (Pln.Exprs aP) (Pln.Cols aP) (Pln.Kids aP))))))], [(136, .arr 1 (.int .i64) ((toIntS aWidths) : List Int)), (144, .arr 1 .bool ((toBoolS aSets) : List Bool))]⟩
      [(FitsP (Pln.mk (Pln.Kind aP) (Pln.Table aP) (Pln.Exprs aP) (Pln.Cols aP) (Pln.Kids aP))), (True)] (by kernel_rfl) ?_ ?_
     ·
      refine ⟨?_, ?_, trivial⟩
      ·
       exact FitsP.of (l := 1048576) ⟨by decide, by decide⟩ (by first | exact h15q | exact h11q | exact h7q | exact h3q | exact trivial | exact trivial)
      ·
       trivial
     refine AW.cond (b := (!(eqPlan (Pln.mk (Pln.Kind (toPlan (Pln.mk (Pln.Kind aP) (Pln.Table aP) (Pln.Exprs aP) (Pln.Cols aP) (Pln.Kids aP)))) (Pln.Table (toPlan (Pln.mk (Pln.Kind aP) (Pln.Table aP) (Pln.Exprs aP) (Pln.Cols aP) (Pln.Kids aP)))) (Pln.Exprs (toPlan (Pln.mk (Pln.Kind aP) (Pln.Table aP) (Pln.Exprs aP) (Pln.Cols aP) (Pln.Kids aP)))) (Pln.Cols (toPlan (Pln.mk (Pln.Kind aP) (Pln.Table aP) (Pln.Exprs aP) (Pln.Cols aP) (Pln.Kids aP)))) (Pln.Kids (toPlan (Pln.mk (Pln.Kind aP) (Pln.Table aP) (Pln.Exprs aP) (Pln.Cols aP) (Pln.Kids aP))))) (toPlan (Pln.mk (Pln.Kind aP) (Pln.Table aP) (Pln.Exprs aP) (Pln.Cols aP) (Pln.Kids aP)))))) (by kernel_rfl) ?_ ?_
     ·
      intro h17
      have h17q : (eqPlan (Pln.mk (Pln.Kind (toPlan (Pln.mk (Pln.Kind aP) (Pln.Table aP) (Pln.Exprs aP) (Pln.Cols aP) (Pln.Kids aP)))) (Pln.Table (toPlan (Pln.mk (Pln.Kind aP) (Pln.Table aP) (Pln.Exprs aP) (Pln.Cols aP) (Pln.Kids aP)))) (Pln.Exprs (toPlan (Pln.mk (Pln.Kind aP) (Pln.Table aP) (Pln.Exprs aP) (Pln.Cols aP) (Pln.Kids aP)))) (Pln.Cols (toPlan (Pln.mk (Pln.Kind aP) (Pln.Table aP) (Pln.Exprs aP) (Pln.Cols aP) (Pln.Kids aP)))) (Pln.Kids (toPlan (Pln.mk (Pln.Kind aP) (Pln.Table aP) (Pln.Exprs aP) (Pln.Cols aP) (Pln.Kids aP))))) (toPlan (Pln.mk (Pln.Kind aP) (Pln.Table aP) (Pln.Exprs aP) (Pln.Cols aP) (Pln.Kids aP)))) = false := (Go.Am.not_pos h17)
      have e18 := e16.trans (Go.Am.bif_t h17)
      refine AW.seq ?_
      refine AW.reg hC  false [] [6] []
       ⟨[(6, .bool false)], []⟩
       [] (by kernel_rfl) ?_ ?_
      ·
       exact trivial
      refine AW.ret ?_
      exact AW.retE (β := Bool) (fun v => [⟨.bool, v⟩]) (fun v => []) (v := false) e18 (by kernel_rfl) rfl rfl
     ·
      intro h19
      have h19q : (eqPlan (Pln.mk (Pln.Kind (toPlan (Pln.mk (Pln.Kind aP) (Pln.Table aP) (Pln.Exprs aP) (Pln.Cols aP) (Pln.Kids aP)))) (Pln.Table (toPlan (Pln.mk (Pln.Kind aP) (Pln.Table aP) (Pln.Exprs aP) (Pln.Cols aP) (Pln.Kids aP)))) (Pln.Exprs (toPlan (Pln.mk (Pln.Kind aP) (Pln.Table aP) (Pln.Exprs aP) (Pln.Cols aP) (Pln.Kids aP)))) (Pln.Cols (toPlan (Pln.mk (Pln.Kind aP) (Pln.Table aP) (Pln.Exprs aP) (Pln.Cols aP) (Pln.Kids aP)))) (Pln.Kids (toPlan (Pln.mk (Pln.Kind aP) (Pln.Table aP) (Pln.Exprs aP) (Pln.Cols aP) (Pln.Kids aP))))) (toPlan (Pln.mk (Pln.Kind aP) (Pln.Table aP) (Pln.Exprs aP) (Pln.Cols aP) (Pln.Kids aP)))) = true := (Go.Am.not_neg h19)
      have e20 := e16.trans (Go.Am.bif_f h19)
      refine AW.keep [1, 2, 10, 11] [136, 144] ⟨[(1, .data (.slice (.int .i64)) (aWidths : List Int)), (2, .data (.slice .bool) (aSets : List Bool)), (10, .arr 136 1), (11, .arr 144 1)], [(136, .arr 1 (.int .i64) ((toIntS aWidths) : List Int)), (144, .arr 1 .bool ((toBoolS aSets) : List Bool))]⟩ (by kernel_rfl) ?_
      refine AW.skip ?_
      refine AW.seq ?_
      refine AW.seq ?_
      refine AW.reg hC  false [] [2, 11, 53] [144]
       ⟨[(2, .data (.slice .bool) (aSets : List Bool)), (11, .arr 144 1), (53, .bool (!(eqIntS (toIntS aWidths) (toIntS aWidths))))], [(144, .arr 1 .bool ((toBoolS aSets) : List Bool))]⟩
       [((List.length aWidths : Int) ≤ 1048576), (True)] (by kernel_rfl) ?_ ?_
      ·
       refine ⟨?_, ?_, trivial⟩
       ·
        first | omega | assumption
       ·
        trivial
      refine AW.cond (b := (!(eqIntS (toIntS aWidths) (toIntS aWidths)))) (by kernel_rfl) ?_ ?_
      ·
       intro h21
       have h21q : (eqIntS (toIntS aWidths) (toIntS aWidths)) = false := (Go.Am.not_pos h21)
       have e22 := e20.trans (Go.Am.bif_t h21)
       refine AW.seq ?_
       refine AW.reg hC  false [] [6] []
        ⟨[(6, .bool false)], []⟩
        [] (by kernel_rfl) ?_ ?_
       ·
        exact trivial
       refine AW.ret ?_
       exact AW.retE (β := Bool) (fun v => [⟨.bool, v⟩]) (fun v => []) (v := false) e22 (by kernel_rfl) rfl rfl
      ·
       intro h23
       have h23q : (eqIntS (toIntS aWidths) (toIntS aWidths)) = true := (Go.Am.not_neg h23)
       have e24 := e20.trans (Go.Am.bif_f h23)
       refine AW.keep [2, 11] [144] ⟨[(2, .data (.slice .bool) (aSets : List Bool)), (11, .arr 144 1)], [(144, .arr 1 .bool ((toBoolS aSets) : List Bool))]⟩ (by kernel_rfl) ?_
       refine AW.skip ?_
       refine AW.seq ?_
       refine AW.seq ?_
       refine AW.reg hC  false [] [58] []
        ⟨[(58, .bool (!(eqBoolS (toBoolS aSets) (toBoolS aSets))))], []⟩
        [((List.length aSets : Int) ≤ 1048576), (True)] (by kernel_rfl) ?_ ?_
       ·
        refine ⟨?_, ?_, trivial⟩
        ·
         first | omega | assumption
        ·
         trivial
       refine AW.cond (b := (!(eqBoolS (toBoolS aSets) (toBoolS aSets)))) (by kernel_rfl) ?_ ?_
       ·
        intro h25
        have h25q : (eqBoolS (toBoolS aSets) (toBoolS aSets)) = false := (Go.Am.not_pos h25)
        have e26 := e24.trans (Go.Am.bif_t h25)
        refine AW.seq ?_
        refine AW.reg hC  false [] [6] []
         ⟨[(6, .bool false)], []⟩
         [] (by kernel_rfl) ?_ ?_
        ·
         exact trivial
        refine AW.ret ?_
        exact AW.retE (β := Bool) (fun v => [⟨.bool, v⟩]) (fun v => []) (v := false) e26 (by kernel_rfl) rfl rfl
       ·
        intro h27
        have h27q : (eqBoolS (toBoolS aSets) (toBoolS aSets)) = true := (Go.Am.not_neg h27)
        have e28 := e24.trans (Go.Am.bif_f h27)
        refine AW.keep [] [] ⟨[], []⟩ (by kernel_rfl) ?_
        refine AW.skip ?_
        refine AW.seq ?_
        refine AW.reg hC  false [] [6] []
         ⟨[(6, .bool true)], []⟩
         [] (by kernel_rfl) ?_ ?_
        ·
         exact trivial
        refine AW.ret ?_
        exact AW.retE (β := Bool) (fun v => [⟨.bool, v⟩]) (fun v => []) (v := true) e28 (by kernel_rfl) rfl rfl

theorem FnExactIsDuplicateFree_law (p : Pln) (ws : List Int) (sets : List Bool) : FnExactIsDuplicateFree p ws sets = true := by
 unfold FnExactIsDuplicateFree
 rw [Pln.eta, Pln.eta, IsDuplicateFree_same, eqPlan_self, eqIntS_self, eqBoolS_self]
 simp

end
end Go.Proofs.Ytodcdgolcbdkgaa
