/-
  A part of the proof of this claim (As3): what functions of the program compute, and plain facts of that. No conditions.
-/
import Derived.Test.YtbhgdogogpihhaaAs2
set_option linter.all false
namespace Go.Proofs.Ytbhgdogogpihhaa
open Go Go.Am
noncomputable section

theorem or_bif {α : Type} (a b : Bool) (x y : α) : (bif a then x else bif b then x else y) = bif (bif a then true else b) then x else y := by
 cases a <;> rfl

def rowAt (t : Tab) (i : Nat) : List Val := List.getD (Tab.Rows t) i []

structure VT (t : Tab) : Prop where
 w1 : 1 ≤ t.Width
 w6 : t.Width ≤ 6
 n4 : t.Rows.length ≤ 400
 rows : ∀ i < t.Rows.length, VR (rowAt t i) ∧ ((rowAt t i).length : Int) = t.Width
 sorted : ∀ i < t.Rows.length, 0 < i → compareRows (rowAt t (i - 1)) (rowAt t i) ≤ 0

theorem toNat_pred (i : Nat) : Int.toNat (((i : Nat) : Int) - 1) = i - 1 := by omega

theorem ValidTable_iff {t : Tab} : ValidTable t = true ↔ VT t := by
 unfold ValidTable
 cases h : (bif (!(validWidth (Tab.Width t))) then true else (decide (400 < ((List.length (Tab.Rows t) : Nat) : Int)))) with
 | true =>
  simp only [cond_true, Bool.false_eq_true, false_iff]
  rintro ⟨h1, h2, h3, _, _⟩
  rcases or_pos h with h | h
  ·
   rw [validWidth_iff.2 ⟨h1, h2⟩] at h
   cases h
  ·
   have := of_decide_eq_true h
   omega
 | false =>
  have h := or_neg h
  have hw := validWidth_iff.1 (not_neg h.1)
  have hn := of_decide_eq_false h.2
  simp only [cond_false]
  rcases all_loop (ValidTable_l0 t) t.Rows.length (fun i => bif (bif ((((rowAt t i).length : Nat) : Int) != (Tab.Width t)) then true else (!(ivalidRow (rowAt t i)))) then true else (bif (decide (0 < ((i : Nat) : Int))) then (decide (0 < (icompareRows (rowAt t (Int.toNat (((i : Nat) : Int) - 1))) (rowAt t i)))) else false)) (fun k i => by rw [← or_bif]; rfl) (t.Rows.length - 0 + 1) 0 (by omega) with ⟨h1, h2⟩ | ⟨h1, j, h2, h3, h4⟩
  ·
   rw [h1]
   simp only [Sum.elim_inl, true_iff]
   have hr : ∀ i < t.Rows.length, VR (rowAt t i) ∧ ((rowAt t i).length : Int) = t.Width := fun i hi => by
    have := or_neg (or_neg (h2 i (by omega) hi)).1
    exact ⟨ivalidRow_iff.1 (not_neg this.2), by simpa using this.1⟩
   refine ⟨by omega, by omega, by omega, hr, fun i hi h0 => ?_⟩
   have := (or_neg (h2 i (by omega) hi)).2
   rw [show decide (0 < ((i : Nat) : Int)) = true by simp; exact h0, cond_true, toNat_pred] at this
   have := of_decide_eq_false this
   rw [cmpRows (hr _ (by omega)).1 (hr _ hi).1 (by have := (hr _ hi).2; have := (hr (i - 1) (by omega)).2; omega)] at this
   omega
  ·
   rw [h1]
   simp only [Sum.elim_inr, Bool.false_eq_true, false_iff]
   rintro ⟨_, _, _, hr, hs⟩
   rcases or_pos h4 with h | h
   ·
    rcases or_pos h with h | h
    ·
     have := (hr j h3).2
     simp at h
     omega
    ·
     rw [ivalidRow_iff.2 (hr j h3).1] at h
     cases h
   ·
    have h := and_pos h
    have h0 := of_decide_eq_true h.1
    have h5 := of_decide_eq_true h.2
    have := hs j h3 (by omega)
    rw [toNat_pred, cmpRows (hr _ (by omega)).1 (hr _ h3).1 (by have := (hr _ h3).2; have := (hr (j - 1) (by omega)).2; omega)] at h5
    omega

theorem validTable_iff {t : Tab} : validTable t = true ↔ VT t := by
 unfold validTable
 rcases all_loop (validTable_l0 t) t.Rows.length (fun i => bif (bif (!(validRow (rowAt t i))) then true else ((((rowAt t i).length : Nat) : Int) != (Tab.Width t))) then true else (bif (decide (0 < ((i : Nat) : Int))) then (decide (0 < (compareRows (rowAt t (Int.toNat (((i : Nat) : Int) - 1))) (rowAt t i)))) else false)) (fun k i => rfl) (t.Rows.length - 0 + 1) 0 (by omega) with ⟨h1, h2⟩ | ⟨h1, j, h2, h3, h4⟩
 ·
  rw [h1]
  simp only [Sum.elim_inl]
  have hr : ∀ i < t.Rows.length, VR (rowAt t i) ∧ ((rowAt t i).length : Int) = t.Width := fun i hi => by
   have := or_neg (or_neg (h2 i (by omega) hi)).1
   exact ⟨validRow_iff.1 (not_neg this.1), by simpa using this.2⟩
  have hs : ∀ i < t.Rows.length, 0 < i → compareRows (rowAt t (i - 1)) (rowAt t i) ≤ 0 := fun i hi h0 => by
   have := (or_neg (h2 i (by omega) hi)).2
   rw [show decide (0 < ((i : Nat) : Int)) = true by simp; exact h0, cond_true, toNat_pred] at this
   have := of_decide_eq_false this
   omega
  constructor
  ·
   intro h
   have h := and_pos h
   have hw := inRange_iff.1 h.1
   have := of_decide_eq_true h.2
   exact ⟨hw.1, hw.2, by omega, hr, hs⟩
  ·
   rintro ⟨h1, h2, h3, _, _⟩
   rw [inRange_iff.2 ⟨h1, h2⟩, cond_true]
   simp
   omega
 ·
  rw [h1]
  simp only [Sum.elim_inr, Bool.false_eq_true, false_iff]
  rintro ⟨_, _, _, hr, hs⟩
  rcases or_pos h4 with h | h
  ·
   rcases or_pos h with h | h
   ·
    rw [validRow_iff.2 (hr j h3).1] at h
    cases h
   ·
    have := (hr j h3).2
    simp at h
    omega
  ·
   have h := and_pos h
   have h0 := of_decide_eq_true h.1
   have h5 := of_decide_eq_true h.2
   have := hs j h3 (by omega)
   rw [toNat_pred] at h5
   omega

theorem vt_eq (t : Tab) : validTable t = ValidTable t := by
 rw [Bool.eq_iff_iff, validTable_iff, ValidTable_iff]

def has (mask : Int) (i : Int) : Bool := (((mask / 2 ^ (Int.toNat i)) % 2) == 1)

def has_sp : FnSpec := mkSpec [.val (.int .i64), .val (.int .i64)] [.val .bool] (fun (mask : Int) (i : Int) => 0 ≤ mask ∧ (0 ≤ i ∧ i ≤ 64)) (fun (mask : Int) (i : Int) => [⟨.bool, (has mask i)⟩])

theorem has_ok : FnOK Try.prog 103 has_sp := by
 have hC : CtxOK Try.prog (mkCtx tyL []) := CtxOK.nil tyOK
 refine FnOK.of_body Try.func103 (by kernel_rfl) rfl (C := (mkCtx tyL [])) hC.ty (by kernel_rfl) ?_
 intro (mask : Int) (i : Int) hwf hpre E
 have hpre : 0 ≤ mask ∧ (0 ≤ i ∧ i ≤ 64) := hpre
 have hw_mask : Wf ⟨(.int .i64), (mask : Int)⟩ := hwf _ (List.Mem.head _)
 have hr_mask : -9223372036854775808 ≤ mask ∧ mask ≤ 9223372036854775807 := hw_mask.int_inv
 have hw_i : Wf ⟨(.int .i64), (i : Int)⟩ := hwf _ (List.Mem.tail _ (List.Mem.head _))
 have hr_i : -9223372036854775808 ≤ i ∧ i ≤ 9223372036854775807 := hw_i.int_inv
 have e0 : has mask i = has mask i := rfl
 refine AW.seq (AW.r1 hC [0, 1] [] ⟨[(0, .int .i64 mask), (1, .int .i64 i)], []⟩ ?_)
 refine AW.seq (AW.r0 hC [4] [] ⟨[(4, .bool (((mask / 2 ^ (Int.toNat i)) % 2) == 1))], []⟩ [(0 ≤ i ∧ i ≤ 64), (0 ≤ (mask / 2 ^ (Int.toNat i)) ∧ 0 < (2 : Int))] ?_ ?_)
 ·
  refine ⟨?_, ?_, trivial⟩
  ·
   first | omega | (dsimp only; omega) | (simp only [lens] at *; omega)
  ·
   exact ⟨Int.ediv_nonneg hpre.1 (Int.pow_nonneg (by decide)), by decide⟩
 exact AW.ret (AW.retE (β := Bool) (fun v => [⟨.bool, v⟩]) (fun v => []) (v := (((mask / 2 ^ (Int.toNat i)) % 2) == 1)) e0 (by kernel_rfl) rfl rfl)

def ivalidSet (s : Int) (width : Int) : Bool := (bif (decide (0 ≤ s)) then (decide (s < ((1 : Int) * 2 ^ (Int.toNat width)))) else false)

def ivalidSet_sp : FnSpec := mkSpec [.val (.int .i64), .val (.int .i64)] [.val .bool] (fun (s : Int) (width : Int) => 1 ≤ width ∧ width ≤ 6) (fun (s : Int) (width : Int) => [⟨.bool, (ivalidSet s width)⟩])

theorem ivalidSet_ok : FnOK Try.prog 101 ivalidSet_sp := by
 have hC : CtxOK Try.prog (mkCtx tyL []) := CtxOK.nil tyOK
 refine FnOK.of_body Try.func101 (by kernel_rfl) rfl (C := (mkCtx tyL [])) hC.ty (by kernel_rfl) ?_
 intro (s : Int) (width : Int) hwf hpre E
 have hpre : 1 ≤ width ∧ width ≤ 6 := hpre
 have hw_s : Wf ⟨(.int .i64), (s : Int)⟩ := hwf _ (List.Mem.head _)
 have hr_s : -9223372036854775808 ≤ s ∧ s ≤ 9223372036854775807 := hw_s.int_inv
 have hw_width : Wf ⟨(.int .i64), (width : Int)⟩ := hwf _ (List.Mem.tail _ (List.Mem.head _))
 have hr_width : -9223372036854775808 ≤ width ∧ width ≤ 9223372036854775807 := hw_width.int_inv
 have e0 : ivalidSet s width = ivalidSet s width := rfl
 refine AW.seq (AW.r1 hC [0, 1] [] ⟨[(0, .int .i64 s), (1, .int .i64 width)], []⟩ ?_)
 refine AW.seq (AW.r0 hC [4] [] ⟨[(4, .bool (bif (decide (0 ≤ s)) then (decide (s < ((1 : Int) * 2 ^ (Int.toNat width)))) else false))], []⟩ [(((decide (0 ≤ s)) = true) → (((decide (0 ≤ s)) = true))), (((decide (0 ≤ s)) = true) → (0 ≤ width ∧ width ≤ 64)), (((decide (0 ≤ s)) = true) → (-9223372036854775808 ≤ ((1 : Int) * 2 ^ (Int.toNat width)) ∧ ((1 : Int) * 2 ^ (Int.toNat width)) ≤ 9223372036854775807)), (((decide (0 ≤ s)) = true) → (((decide (0 ≤ s)) = true))), (((decide (0 ≤ s)) = true) → (((decide (0 ≤ s)) = true))), (((decide (0 ≤ s)) = true) → (((decide (0 ≤ s)) = true)))] ?_ ?_)
 ·
  refine ⟨?_, ?_, ?_, ?_, ?_, ?_, trivial⟩
  ·
   intro g1
   have g1p0 : 0 ≤ s := (of_decide_eq_true g1)
   first | assumption | exact ⟨by assumption, by assumption⟩
  ·
   intro g2
   have g2p0 : 0 ≤ s := (of_decide_eq_true g2)
   first | omega | (dsimp only; omega) | (simp only [lens] at *; omega)
  ·
   intro g3
   have g3p0 : 0 ≤ s := (of_decide_eq_true g3)
   have := pow64 (w := width) (by omega) (by omega); omega
  ·
   intro g4
   have g4p0 : 0 ≤ s := (of_decide_eq_true g4)
   first | assumption | exact ⟨by assumption, by assumption⟩
  ·
   intro g5
   have g5p0 : 0 ≤ s := (of_decide_eq_true g5)
   first | assumption | exact ⟨by assumption, by assumption⟩
  ·
   intro g6
   have g6p0 : 0 ≤ s := (of_decide_eq_true g6)
   first | assumption | exact ⟨by assumption, by assumption⟩
 exact AW.ret (AW.retE (β := Bool) (fun v => [⟨.bool, v⟩]) (fun v => []) (v := (bif (decide (0 ≤ s)) then (decide (s < ((1 : Int) * 2 ^ (Int.toNat width)))) else false)) e0 (by kernel_rfl) rfl rfl)

def depValid (f : Dep) (width : Int) : Bool := (bif (ivalidSet (Dep.From f) width) then (ivalidSet (Dep.To f) width) else false)

def depValid_sp : FnSpec := mkSpec [.val (.named 0), .val (.int .i64)] [.val .bool] (fun (f : Dep) (width : Int) => 1 ≤ width ∧ width ≤ 6) (fun (f : Dep) (width : Int) => [⟨.bool, (depValid f width)⟩])

theorem depValid_ok : FnOK Try.prog 54 depValid_sp := by
 have hC : CtxOK Try.prog (mkCtx tyL [(101, ivalidSet_sp)]) := CtxOK.cons ivalidSet_ok (CtxOK.nil tyOK)
 refine FnOK.of_body Try.func54 (by kernel_rfl) rfl (C := (mkCtx tyL [(101, ivalidSet_sp)])) hC.ty (by kernel_rfl) ?_
 intro (f : Dep) (width : Int) hwf hpre E
 have hpre : 1 ≤ width ∧ width ≤ 6 := hpre
 have hw_f : Wf ⟨(.named 0), (f : Dep)⟩ := hwf _ (List.Mem.head _)
 have hr_f_From : -9223372036854775808 ≤ Dep.From f ∧ Dep.From f ≤ 9223372036854775807 := (hw_f.field (tv := ⟨(.int .i64), Dep.From f⟩) (List.Mem.head _)).int_inv
 have hr_f_To : -9223372036854775808 ≤ Dep.To f ∧ Dep.To f ≤ 9223372036854775807 := (hw_f.field (tv := ⟨(.int .i64), Dep.To f⟩) (List.Mem.tail _ (List.Mem.head _))).int_inv
 have hw_width : Wf ⟨(.int .i64), (width : Int)⟩ := hwf _ (List.Mem.tail _ (List.Mem.head _))
 have hr_width : -9223372036854775808 ≤ width ∧ width ≤ 9223372036854775807 := hw_width.int_inv
 have e0 : depValid f width = depValid f width := rfl
 refine AW.seq (AW.r1 hC [1, 2] [8] ⟨[(1, .int .i64 width), (2, .ref 8 1 0)], [(8, .box 1 [.int .i64 (Dep.From f), .int .i64 (Dep.To f)])]⟩ ?_)
 refine AW.seq (AW.r0 hC [4] [] ⟨[(4, .bool (bif (ivalidSet (Dep.From f) width) then (ivalidSet (Dep.To f) width) else false))], []⟩ [(1 ≤ width ∧ width ≤ 6), (((ivalidSet (Dep.From f) width) = true) → (((ivalidSet (Dep.From f) width) = true))), (((ivalidSet (Dep.From f) width) = true) → (((ivalidSet (Dep.From f) width) = true))), (((ivalidSet (Dep.From f) width) = true) → (((ivalidSet (Dep.From f) width) = true))), (((ivalidSet (Dep.From f) width) = true) → (1 ≤ width ∧ width ≤ 6)), (((ivalidSet (Dep.From f) width) = true) → (((ivalidSet (Dep.From f) width) = true)))] ?_ ?_)
 ·
  refine ⟨?_, ?_, ?_, ?_, ?_, ?_, trivial⟩
  ·
   first | omega | (dsimp only; omega) | (simp only [lens] at *; omega)
  ·
   intro g1
   have g1p0 : (ivalidSet (Dep.From f) width) = true := g1
   first | assumption | exact ⟨by assumption, by assumption⟩
  ·
   intro g2
   have g2p0 : (ivalidSet (Dep.From f) width) = true := g2
   first | assumption | exact ⟨by assumption, by assumption⟩
  ·
   intro g3
   have g3p0 : (ivalidSet (Dep.From f) width) = true := g3
   first | assumption | exact ⟨by assumption, by assumption⟩
  ·
   intro g4
   have g4p0 : (ivalidSet (Dep.From f) width) = true := g4
   first | omega | (dsimp only; omega) | (simp only [lens] at *; omega)
  ·
   intro g5
   have g5p0 : (ivalidSet (Dep.From f) width) = true := g5
   first | assumption | exact ⟨by assumption, by assumption⟩
 exact AW.ret (AW.retE (β := Bool) (fun v => [⟨.bool, v⟩]) (fun v => []) (v := (bif (ivalidSet (Dep.From f) width) then (ivalidSet (Dep.To f) width) else false)) e0 (by kernel_rfl) rfl rfl)

def validSet (s : Int) (width : Int) : Bool := (bif (inRange width 1 6) then (inRange s 0 (((1 : Int) * 2 ^ (Int.toNat width)) - 1)) else false)

def validSet_sp : FnSpec := mkSpec [.val (.int .i64), .val (.int .i64)] [.val .bool] (fun (s : Int) (width : Int) => True) (fun (s : Int) (width : Int) => [⟨.bool, (validSet s width)⟩])

theorem validSet_ok : FnOK Try.prog 57 validSet_sp := by
 have hC : CtxOK Try.prog (mkCtx tyL [(80, inRange_sp)]) := CtxOK.cons inRange_ok (CtxOK.nil tyOK)
 refine FnOK.of_body Try.func57 (by kernel_rfl) rfl (C := (mkCtx tyL [(80, inRange_sp)])) hC.ty (by kernel_rfl) ?_
 intro (s : Int) (width : Int) hwf hpre E
 have hpre : True := hpre
 have hw_s : Wf ⟨(.int .i64), (s : Int)⟩ := hwf _ (List.Mem.head _)
 have hr_s : -9223372036854775808 ≤ s ∧ s ≤ 9223372036854775807 := hw_s.int_inv
 have hw_width : Wf ⟨(.int .i64), (width : Int)⟩ := hwf _ (List.Mem.tail _ (List.Mem.head _))
 have hr_width : -9223372036854775808 ≤ width ∧ width ≤ 9223372036854775807 := hw_width.int_inv
 have e0 : validSet s width = validSet s width := rfl
 refine AW.seq (AW.r1 hC [0, 1] [] ⟨[(0, .int .i64 s), (1, .int .i64 width)], []⟩ ?_)
 refine AW.seq (AW.r0 hC [4] [] ⟨[(4, .bool (bif (inRange width 1 6) then (inRange s 0 (((1 : Int) * 2 ^ (Int.toNat width)) - 1)) else false))], []⟩ [(True), (((inRange width 1 6) = true) → (((inRange width 1 6) = true))), (((inRange width 1 6) = true) → (0 ≤ width ∧ width ≤ 64)), (((inRange width 1 6) = true) → (-9223372036854775808 ≤ ((1 : Int) * 2 ^ (Int.toNat width)) ∧ ((1 : Int) * 2 ^ (Int.toNat width)) ≤ 9223372036854775807)), (((inRange width 1 6) = true) → (((inRange width 1 6) = true))), (((inRange width 1 6) = true) → (-9223372036854775808 ≤ (((1 : Int) * 2 ^ (Int.toNat width)) - 1) ∧ (((1 : Int) * 2 ^ (Int.toNat width)) - 1) ≤ 9223372036854775807)), (((inRange width 1 6) = true) → (((inRange width 1 6) = true))), (((inRange width 1 6) = true) → (((inRange width 1 6) = true))), (((inRange width 1 6) = true) → (True)), (((inRange width 1 6) = true) → (((inRange width 1 6) = true)))] ?_ ?_)
 ·
  refine ⟨?_, ?_, ?_, ?_, ?_, ?_, ?_, ?_, ?_, ?_, trivial⟩
  ·
   trivial
  ·
   intro g1
   have g1p0 : (inRange width 1 6) = true := g1
   first | assumption | exact ⟨by assumption, by assumption⟩
  ·
   intro g2
   have g2p0 : (inRange width 1 6) = true := g2
   have hv := inRange_iff.1 g2p0
   omega
  ·
   intro g3
   have g3p0 : (inRange width 1 6) = true := g3
   have hv := inRange_iff.1 g3p0
   have := pow64 (w := width) hv.2 (by omega)
   omega
  ·
   intro g4
   have g4p0 : (inRange width 1 6) = true := g4
   first | assumption | exact ⟨by assumption, by assumption⟩
  ·
   intro g5
   have g5p0 : (inRange width 1 6) = true := g5
   have hv := inRange_iff.1 g5p0
   have := pow64 (w := width) hv.2 (by omega)
   omega
  ·
   intro g6
   have g6p0 : (inRange width 1 6) = true := g6
   first | assumption | exact ⟨by assumption, by assumption⟩
  ·
   intro g7
   have g7p0 : (inRange width 1 6) = true := g7
   first | assumption | exact ⟨by assumption, by assumption⟩
  ·
   intro g8
   have g8p0 : (inRange width 1 6) = true := g8
   trivial
  ·
   intro g9
   have g9p0 : (inRange width 1 6) = true := g9
   first | assumption | exact ⟨by assumption, by assumption⟩
 exact AW.ret (AW.retE (β := Bool) (fun v => [⟨.bool, v⟩]) (fun v => []) (v := (bif (inRange width 1 6) then (inRange s 0 (((1 : Int) * 2 ^ (Int.toNat width)) - 1)) else false)) e0 (by kernel_rfl) rfl rfl)

def agree_l0 (a : List Val) (b : List Val) (set : Int) : Nat → Nat → Unit ⊕ Bool
 | 0, c => .inl ()
 | k + 1, c => (bif (decide (((c : Nat) : Int) < ((List.length a : Nat) : Int))) then (bif (bif (has set ((c : Nat) : Int)) then ((compareValues (List.getD a c Val.zero) (List.getD b c Val.zero)) != 0) else false) then (.inr false) else (agree_l0 a b set k (c + 1))) else (.inl ()))

def agree (a : List Val) (b : List Val) (set : Int) : Bool := (Sum.elim (fun _ => true) (fun r => r) (agree_l0 a b set ((List.length a) - 0 + 1) 0))

def agree_sp : FnSpec := mkSpec [.val (.slice (.named 1)), .val (.slice (.named 1)), .val (.int .i64)] [.val .bool] (fun (a : List Val) (b : List Val) (set : Int) => (0 ≤ set) ∧ a.length ≤ 6 ∧ b.length = a.length) (fun (a : List Val) (b : List Val) (set : Int) => [⟨.bool, (agree a b set)⟩])

theorem agree_ok : FnOK Try.prog 58 agree_sp := by
 have hC : CtxOK Try.prog (mkCtx tyL [(103, has_sp), (104, compareValues_sp)]) := CtxOK.cons has_ok (CtxOK.cons compareValues_ok (CtxOK.nil tyOK))
 have hM : Try.prog.follows .mixedOrders = true := Try.checked.mixed
 refine FnOK.of_body Try.func58 (by kernel_rfl) rfl (C := (mkCtx tyL [(103, has_sp), (104, compareValues_sp)])) hC.ty (by kernel_rfl) ?_
 intro (a : List Val) (b : List Val) (set : Int) hwf hpre E
 have hpre : (0 ≤ set) ∧ a.length ≤ 6 ∧ b.length = a.length := hpre
 have hw_a : Wf ⟨(.slice (.named 1)), (a : List Val)⟩ := hwf _ (List.Mem.head _)
 have hl_a : ((List.length a : Nat) : Int) ≤ 9223372036854775807 := hw_a.len
 have hw_b : Wf ⟨(.slice (.named 1)), (b : List Val)⟩ := hwf _ (List.Mem.tail _ (List.Mem.head _))
 have hl_b : ((List.length b : Nat) : Int) ≤ 9223372036854775807 := hw_b.len
 have hw_set : Wf ⟨(.int .i64), (set : Int)⟩ := hwf _ (List.Mem.tail _ (List.Mem.tail _ (List.Mem.head _)))
 have hr_set : -9223372036854775808 ≤ set ∧ set ≤ 9223372036854775807 := hw_set.int_inv
 have e0 : agree a b set = agree a b set := rfl
 refine AW.seq (AW.r1 hC [0, 1, 2] [] ⟨[(0, .data (.slice (.named 1)) (a : List Val)), (1, .data (.slice (.named 1)) (b : List Val)), (2, .int .i64 set)], []⟩ ?_)
 refine AW.seq (AW.seq (AW.r1 hC [0, 1, 2, 7] [] ⟨[(0, .data (.slice (.named 1)) (a : List Val)), (1, .data (.slice (.named 1)) (b : List Val)), (2, .int .i64 set), (7, .int .i64 0)], []⟩ ?_))
 refine AW.cutQ (α := Unit) (fun x => ⟨[], []⟩) (fun x => (True) ∧ (agree_l0 a b set ((List.length a) - 0 + 1) 0) = (.inl ())) ?_ ?_
 ·
  skip
  refine AW.block (AW.loop (α := Nat) (fun x => ⟨[(0, .data (.slice (.named 1)) (a : List Val)), (1, .data (.slice (.named 1)) (b : List Val)), (2, .int .i64 set), (7, .int .i64 ((x : Nat) : Int))], []⟩) (fun x => (True) ∧ ∃ k, (List.length a) - x < k ∧ (agree_l0 a b set ((List.length a) - 0 + 1) 0) = agree_l0 a b set k x) (fun x => (List.length a) - x) 0 (by kernel_rfl) ⟨?_, _, Nat.lt_succ_self _, rfl⟩ ?_)
  ·
   show True
   first | exact trivial | (refine ⟨?_, ?_⟩ <;> first | omega | simp) | omega | simp
  ·
   intro c hR
   obtain ⟨hI0, k30, hk28, e29⟩ := hR
   replace hI0 : True := hI0
   replace hk28 : (List.length a) - c < k30 := hk28
   obtain ⟨k30q, rfl⟩ : ∃ k, k30 = k + 1 := ⟨k30 - 1, by omega⟩
   refine AW.seq (AW.seq (AW.r1 hC [0, 1, 2, 7, 11] [] ⟨[(0, .data (.slice (.named 1)) (a : List Val)), (1, .data (.slice (.named 1)) (b : List Val)), (2, .int .i64 set), (7, .int .i64 ((c : Nat) : Int)), (11, .bool (decide (((c : Nat) : Int) < ((List.length a : Nat) : Int))))], []⟩ ?_))
   refine AW.cd (decide (((c : Nat) : Int) < ((List.length a : Nat) : Int))) ?_ ?_
   ·
    intro h31
    have h31q : ((c : Nat) : Int) < ((List.length a : Nat) : Int) := (of_decide_eq_true h31)
    have e32 := e29.trans (Go.Am.bif_t h31)
    refine AW.kp [0, 1, 2, 7] [] ⟨[(0, .data (.slice (.named 1)) (a : List Val)), (1, .data (.slice (.named 1)) (b : List Val)), (2, .int .i64 set), (7, .int .i64 ((c : Nat) : Int))], []⟩ ?_
    refine AW.skip (AW.seq (AW.block (AW.seq (AW.d0 hC hM [0, 1, 2, 7, 28] [] ⟨[(0, .data (.slice (.named 1)) (a : List Val)), (1, .data (.slice (.named 1)) (b : List Val)), (2, .int .i64 set), (7, .int .i64 ((c : Nat) : Int)), (28, .bool (bif (has set ((c : Nat) : Int)) then ((compareValues (List.getD a c Val.zero) (List.getD b c Val.zero)) != 0) else false))], []⟩ [(0 ≤ set ∧ (0 ≤ ((c : Nat) : Int) ∧ ((c : Nat) : Int) ≤ 64)), (((has set ((c : Nat) : Int)) = true) → (((has set ((c : Nat) : Int)) = true))), (((has set ((c : Nat) : Int)) = true) → (((has set ((c : Nat) : Int)) = true))), (((has set ((c : Nat) : Int)) = true) → (0 ≤ ((c : Nat) : Int) ∧ ((c : Nat) : Int) < ((List.length a : Nat) : Int))), (((has set ((c : Nat) : Int)) = true) → (((has set ((c : Nat) : Int)) = true))), (((has set ((c : Nat) : Int)) = true) → (((has set ((c : Nat) : Int)) = true))), (((has set ((c : Nat) : Int)) = true) → (((has set ((c : Nat) : Int)) = true))), (((has set ((c : Nat) : Int)) = true) → (0 ≤ ((c : Nat) : Int) ∧ ((c : Nat) : Int) < ((List.length b : Nat) : Int))), (((has set ((c : Nat) : Int)) = true) → (((has set ((c : Nat) : Int)) = true))), (((has set ((c : Nat) : Int)) = true) → (((has set ((c : Nat) : Int)) = true))), (((has set ((c : Nat) : Int)) = true) → (((has set ((c : Nat) : Int)) = true))), (((has set ((c : Nat) : Int)) = true) → (True)), (((has set ((c : Nat) : Int)) = true) → (((has set ((c : Nat) : Int)) = true))), (((has set ((c : Nat) : Int)) = true) → (((has set ((c : Nat) : Int)) = true)))] ?_ ?_))))
    ·
     refine ⟨?_, ?_, ?_, ?_, ?_, ?_, ?_, ?_, ?_, ?_, ?_, ?_, ?_, ?_, trivial⟩
     ·
      first | omega | (dsimp only; omega) | (simp only [lens] at *; omega)
     ·
      intro g33
      have g33p0 : (has set ((c : Nat) : Int)) = true := g33
      first | assumption | exact ⟨by assumption, by assumption⟩
     ·
      intro g34
      have g34p0 : (has set ((c : Nat) : Int)) = true := g34
      first | assumption | exact ⟨by assumption, by assumption⟩
     ·
      intro g35
      have g35p0 : (has set ((c : Nat) : Int)) = true := g35
      first | omega | (dsimp only; omega) | (simp only [lens] at *; omega)
     ·
      intro g36
      have g36p0 : (has set ((c : Nat) : Int)) = true := g36
      first | assumption | exact ⟨by assumption, by assumption⟩
     ·
      intro g37
      have g37p0 : (has set ((c : Nat) : Int)) = true := g37
      first | assumption | exact ⟨by assumption, by assumption⟩
     ·
      intro g38
      have g38p0 : (has set ((c : Nat) : Int)) = true := g38
      first | assumption | exact ⟨by assumption, by assumption⟩
     ·
      intro g39
      have g39p0 : (has set ((c : Nat) : Int)) = true := g39
      first | omega | (dsimp only; omega) | (simp only [lens] at *; omega)
     ·
      intro g40
      have g40p0 : (has set ((c : Nat) : Int)) = true := g40
      first | assumption | exact ⟨by assumption, by assumption⟩
     ·
      intro g41
      have g41p0 : (has set ((c : Nat) : Int)) = true := g41
      first | assumption | exact ⟨by assumption, by assumption⟩
     ·
      intro g42
      have g42p0 : (has set ((c : Nat) : Int)) = true := g42
      first | assumption | exact ⟨by assumption, by assumption⟩
     ·
      intro g43
      have g43p0 : (has set ((c : Nat) : Int)) = true := g43
      trivial
     ·
      intro g44
      have g44p0 : (has set ((c : Nat) : Int)) = true := g44
      first | assumption | exact ⟨by assumption, by assumption⟩
     ·
      intro g45
      have g45p0 : (has set ((c : Nat) : Int)) = true := g45
      first | assumption | exact ⟨by assumption, by assumption⟩
    refine AW.cd (bif (has set ((c : Nat) : Int)) then ((compareValues (List.getD a c Val.zero) (List.getD b c Val.zero)) != 0) else false) ?_ ?_
    ·
     intro h46
     have h46q : ((has set ((c : Nat) : Int)) = true) ∧ ((compareValues (List.getD a c Val.zero) (List.getD b c Val.zero)) ≠ 0) := (And.imp (fun h => h) (fun h => (Go.Am.bne_pos h)) (Go.Am.and_pos h46))
     have e47 := e32.trans (Go.Am.bif_t h46)
     refine AW.seq (AW.r1 hC [6] [] ⟨[(6, .bool false)], []⟩ ?_)
     refine AW.ret ?_
     have e48 := e0.trans (Go.Am.elim_r e47)
     exact AW.retE (β := Bool) (fun v => [⟨.bool, v⟩]) (fun v => []) (v := false) e48 (by kernel_rfl) rfl rfl
    ·
     intro h49
     have h49q : ((has set ((c : Nat) : Int)) = false) ∨ ((compareValues (List.getD a c Val.zero) (List.getD b c Val.zero)) = 0) := (Or.imp (fun h => h) (fun h => (Go.Am.bne_neg h)) (Go.Am.and_neg h49))
     have e50 := e32.trans (Go.Am.bif_f h49)
     refine AW.kp [0, 1, 2, 7] [] ⟨[(0, .data (.slice (.named 1)) (a : List Val)), (1, .data (.slice (.named 1)) (b : List Val)), (2, .int .i64 set), (7, .int .i64 ((c : Nat) : Int))], []⟩ ?_
     refine AW.skip (AW.r0 hC [0, 1, 2, 7] [] ⟨[(0, .data (.slice (.named 1)) (a : List Val)), (1, .data (.slice (.named 1)) (b : List Val)), (2, .int .i64 set), (7, .int .i64 ((c + 1 : Nat) : Int))], []⟩ [(-9223372036854775808 ≤ ((c + 1 : Nat) : Int) ∧ ((c + 1 : Nat) : Int) ≤ 9223372036854775807)] ?_ ?_)
     ·
      refine ⟨?_, trivial⟩
      ·
       first | omega | (dsimp only; omega) | (simp only [lens] at *; omega)
     refine AW.back (x := c) (c + 1) (by kernel_rfl) ⟨?_, k30q, ?_, e50⟩ ?_
     ·
      show True
      first | assumption | exact trivial | (refine ⟨?_, ?_⟩ <;> first | omega | (simp only [lens] at *; omega)) | omega | (simp only [lens] at *; omega)
     ·
      show (List.length a) - (c + 1) < k30q
      first | omega | (simp only [lens]; omega)
     ·
      show (List.length a) - (c + 1) < (List.length a) - c
      first | omega | (simp only [lens]; omega)
   ·
    intro h51
    have h51q : ¬ (((c : Nat) : Int) < ((List.length a : Nat) : Int)) := (of_decide_eq_false h51)
    have e52 := e29.trans (Go.Am.bif_f h51)
    refine AW.kp [] [] ⟨[], []⟩ ?_
    refine AW.exit ?_
    refine AW.meet () (by kernel_rfl) ⟨?_, e52⟩
    show True
    first | assumption | exact trivial | omega
 ·
  intro x hR
  obtain ⟨hJ0, e53⟩ := hR
  replace hJ0 : True := hJ0
  have e54 := e0.trans (Go.Am.elim_l e53)
  refine AW.seq (AW.r1 hC [6] [] ⟨[(6, .bool true)], []⟩ ?_)
  exact AW.ret (AW.retE (β := Bool) (fun v => [⟨.bool, v⟩]) (fun v => []) (v := true) e54 (by kernel_rfl) rfl rfl)

def agreeIn_l0 (set : Int) (a : List Val) (b : List Val) : Nat → Nat → Unit ⊕ Bool
 | 0, v10 => .inl ()
 | k + 1, v10 => (bif (decide (((v10 : Nat) : Int) < ((List.length a : Nat) : Int))) then (bif (bif ((bits .and .i64 set ((1 : Int) * 2 ^ v10)) != 0) then (!(bif ((Val.Null (List.getD a v10 Val.zero)) == (Val.Null (List.getD b v10 Val.zero))) then (bif ((Val.N (List.getD a v10 Val.zero)) == (Val.N (List.getD b v10 Val.zero))) then true else false) else false)) else false) then (.inr false) else (agreeIn_l0 set a b k (v10 + 1))) else (.inl ()))

def agreeIn (set : Int) (a : List Val) (b : List Val) : Bool := (Sum.elim (fun _ => true) (fun r => r) (agreeIn_l0 set a b ((List.length a) - 0 + 1) 0))

def agreeIn_sp : FnSpec := mkSpec [.val (.int .i64), .val (.slice (.named 1)), .val (.slice (.named 1))] [.val .bool] (fun (set : Int) (a : List Val) (b : List Val) => (0 ≤ set ∧ set < 64) ∧ a.length ≤ 6 ∧ b.length = a.length) (fun (set : Int) (a : List Val) (b : List Val) => [⟨.bool, (agreeIn set a b)⟩])

theorem agreeIn_ok : FnOK Try.prog 55 agreeIn_sp := by
 have hC : CtxOK Try.prog (mkCtx tyL []) := CtxOK.nil tyOK
 have hM : Try.prog.follows .mixedOrders = true := Try.checked.mixed
 refine FnOK.of_body Try.func55 (by kernel_rfl) rfl (C := (mkCtx tyL [])) hC.ty (by kernel_rfl) ?_
 intro (set : Int) (a : List Val) (b : List Val) hwf hpre E
 have hpre : (0 ≤ set ∧ set < 64) ∧ a.length ≤ 6 ∧ b.length = a.length := hpre
 have hw_set : Wf ⟨(.int .i64), (set : Int)⟩ := hwf _ (List.Mem.head _)
 have hr_set : -9223372036854775808 ≤ set ∧ set ≤ 9223372036854775807 := hw_set.int_inv
 have hw_a : Wf ⟨(.slice (.named 1)), (a : List Val)⟩ := hwf _ (List.Mem.tail _ (List.Mem.head _))
 have hl_a : ((List.length a : Nat) : Int) ≤ 9223372036854775807 := hw_a.len
 have hw_b : Wf ⟨(.slice (.named 1)), (b : List Val)⟩ := hwf _ (List.Mem.tail _ (List.Mem.tail _ (List.Mem.head _)))
 have hl_b : ((List.length b : Nat) : Int) ≤ 9223372036854775807 := hw_b.len
 have e0 : agreeIn set a b = agreeIn set a b := rfl
 refine AW.seq (AW.r1 hC [0, 1, 2] [] ⟨[(0, .int .i64 set), (1, .data (.slice (.named 1)) (a : List Val)), (2, .data (.slice (.named 1)) (b : List Val))], []⟩ ?_)
 refine AW.seq (AW.seq (AW.r1 hC [0, 1, 2, 9, 10] [] ⟨[(0, .int .i64 set), (1, .data (.slice (.named 1)) (a : List Val)), (2, .data (.slice (.named 1)) (b : List Val)), (9, .int .i64 ((List.length a : Nat) : Int)), (10, .int .i64 0)], []⟩ ?_))
 refine AW.cutQ (α := Unit) (fun x => ⟨[], []⟩) (fun x => (True) ∧ (agreeIn_l0 set a b ((List.length a) - 0 + 1) 0) = (.inl ())) ?_ ?_
 ·
  skip
  refine AW.block (AW.loop (α := Nat) (fun x => ⟨[(0, .int .i64 set), (1, .data (.slice (.named 1)) (a : List Val)), (2, .data (.slice (.named 1)) (b : List Val)), (9, .int .i64 ((List.length a : Nat) : Int)), (10, .int .i64 ((x : Nat) : Int))], []⟩) (fun x => (True) ∧ ∃ k, (List.length a) - x < k ∧ (agreeIn_l0 set a b ((List.length a) - 0 + 1) 0) = agreeIn_l0 set a b k x) (fun x => (List.length a) - x) 0 (by kernel_rfl) ⟨?_, _, Nat.lt_succ_self _, rfl⟩ ?_)
  ·
   show True
   first | exact trivial | (refine ⟨?_, ?_⟩ <;> first | omega | simp) | omega | simp
  ·
   intro v10 hR
   obtain ⟨hI0, k30, hk28, e29⟩ := hR
   replace hI0 : True := hI0
   replace hk28 : (List.length a) - v10 < k30 := hk28
   obtain ⟨k30q, rfl⟩ : ∃ k, k30 = k + 1 := ⟨k30 - 1, by omega⟩
   refine AW.seq (AW.r1 hC [0, 1, 2, 9, 10, 11] [] ⟨[(0, .int .i64 set), (1, .data (.slice (.named 1)) (a : List Val)), (2, .data (.slice (.named 1)) (b : List Val)), (9, .int .i64 ((List.length a : Nat) : Int)), (10, .int .i64 ((v10 : Nat) : Int)), (11, .bool (decide (((v10 : Nat) : Int) < ((List.length a : Nat) : Int))))], []⟩ ?_)
   refine AW.seq (AW.cd (decide (((v10 : Nat) : Int) < ((List.length a : Nat) : Int))) ?_ ?_)
   ·
    intro h31
    have h31q : ((v10 : Nat) : Int) < ((List.length a : Nat) : Int) := (of_decide_eq_true h31)
    have e32 := e29.trans (Go.Am.bif_t h31)
    refine AW.kp [0, 1, 2, 9, 10] [] ⟨[(0, .int .i64 set), (1, .data (.slice (.named 1)) (a : List Val)), (2, .data (.slice (.named 1)) (b : List Val)), (9, .int .i64 ((List.length a : Nat) : Int)), (10, .int .i64 ((v10 : Nat) : Int))], []⟩ ?_
    refine AW.skip (AW.seq (AW.block (AW.seq (AW.r1 hC [0, 1, 2, 7, 9, 10] [] ⟨[(0, .int .i64 set), (1, .data (.slice (.named 1)) (a : List Val)), (2, .data (.slice (.named 1)) (b : List Val)), (7, .int .i64 ((v10 : Nat) : Int)), (9, .int .i64 ((List.length a : Nat) : Int)), (10, .int .i64 ((v10 : Nat) : Int))], []⟩ ?_))))
    refine AW.seq (AW.d0 hC hM [0, 1, 2, 9, 10, 28] [] ⟨[(0, .int .i64 set), (1, .data (.slice (.named 1)) (a : List Val)), (2, .data (.slice (.named 1)) (b : List Val)), (9, .int .i64 ((List.length a : Nat) : Int)), (10, .int .i64 ((v10 : Nat) : Int)), (28, .bool (bif ((bits .and .i64 set ((1 : Int) * 2 ^ v10)) != 0) then (!(bif ((Val.Null (List.getD a v10 Val.zero)) == (Val.Null (List.getD b v10 Val.zero))) then (bif ((Val.N (List.getD a v10 Val.zero)) == (Val.N (List.getD b v10 Val.zero))) then true else false) else false)) else false))], []⟩ [(0 ≤ ((v10 : Nat) : Int) ∧ ((v10 : Nat) : Int) ≤ 64), (-9223372036854775808 ≤ ((1 : Int) * 2 ^ v10) ∧ ((1 : Int) * 2 ^ v10) ≤ 9223372036854775807), ((((bits .and .i64 set ((1 : Int) * 2 ^ v10)) != 0) = true) → ((((bits .and .i64 set ((1 : Int) * 2 ^ v10)) != 0) = true))), ((((bits .and .i64 set ((1 : Int) * 2 ^ v10)) != 0) = true) → ((((bits .and .i64 set ((1 : Int) * 2 ^ v10)) != 0) = true))), ((((bits .and .i64 set ((1 : Int) * 2 ^ v10)) != 0) = true) → (0 ≤ ((v10 : Nat) : Int) ∧ ((v10 : Nat) : Int) < ((List.length a : Nat) : Int))), ((((bits .and .i64 set ((1 : Int) * 2 ^ v10)) != 0) = true) → ((((bits .and .i64 set ((1 : Int) * 2 ^ v10)) != 0) = true))), ((((bits .and .i64 set ((1 : Int) * 2 ^ v10)) != 0) = true) → ((((bits .and .i64 set ((1 : Int) * 2 ^ v10)) != 0) = true))), ((((bits .and .i64 set ((1 : Int) * 2 ^ v10)) != 0) = true) → ((((bits .and .i64 set ((1 : Int) * 2 ^ v10)) != 0) = true))), ((((bits .and .i64 set ((1 : Int) * 2 ^ v10)) != 0) = true) → (0 ≤ ((v10 : Nat) : Int) ∧ ((v10 : Nat) : Int) < ((List.length b : Nat) : Int))), ((((bits .and .i64 set ((1 : Int) * 2 ^ v10)) != 0) = true) → ((((bits .and .i64 set ((1 : Int) * 2 ^ v10)) != 0) = true))), ((((bits .and .i64 set ((1 : Int) * 2 ^ v10)) != 0) = true) → ((((bits .and .i64 set ((1 : Int) * 2 ^ v10)) != 0) = true))), ((((bits .and .i64 set ((1 : Int) * 2 ^ v10)) != 0) = true) → ((((bits .and .i64 set ((1 : Int) * 2 ^ v10)) != 0) = true))), ((((bits .and .i64 set ((1 : Int) * 2 ^ v10)) != 0) = true) → ((((bits .and .i64 set ((1 : Int) * 2 ^ v10)) != 0) = true)))] ?_ ?_)
    ·
     refine ⟨?_, ?_, ?_, ?_, ?_, ?_, ?_, ?_, ?_, ?_, ?_, ?_, ?_, trivial⟩
     ·
      first | omega | (dsimp only; omega) | (simp only [lens] at *; omega)
     ·
      have := pow6 (n := v10) (by omega)
      omega
     ·
      intro g33
      have g33p0 : (bits .and .i64 set ((1 : Int) * 2 ^ v10)) ≠ 0 := (Go.Am.bne_pos g33)
      first | assumption | exact ⟨by assumption, by assumption⟩
     ·
      intro g34
      have g34p0 : (bits .and .i64 set ((1 : Int) * 2 ^ v10)) ≠ 0 := (Go.Am.bne_pos g34)
      first | assumption | exact ⟨by assumption, by assumption⟩
     ·
      intro g35
      have g35p0 : (bits .and .i64 set ((1 : Int) * 2 ^ v10)) ≠ 0 := (Go.Am.bne_pos g35)
      first | omega | (dsimp only; omega) | (simp only [lens] at *; omega)
     ·
      intro g36
      have g36p0 : (bits .and .i64 set ((1 : Int) * 2 ^ v10)) ≠ 0 := (Go.Am.bne_pos g36)
      first | assumption | exact ⟨by assumption, by assumption⟩
     ·
      intro g37
      have g37p0 : (bits .and .i64 set ((1 : Int) * 2 ^ v10)) ≠ 0 := (Go.Am.bne_pos g37)
      first | assumption | exact ⟨by assumption, by assumption⟩
     ·
      intro g38
      have g38p0 : (bits .and .i64 set ((1 : Int) * 2 ^ v10)) ≠ 0 := (Go.Am.bne_pos g38)
      first | assumption | exact ⟨by assumption, by assumption⟩
     ·
      intro g39
      have g39p0 : (bits .and .i64 set ((1 : Int) * 2 ^ v10)) ≠ 0 := (Go.Am.bne_pos g39)
      first | omega | (dsimp only; omega) | (simp only [lens] at *; omega)
     ·
      intro g40
      have g40p0 : (bits .and .i64 set ((1 : Int) * 2 ^ v10)) ≠ 0 := (Go.Am.bne_pos g40)
      first | assumption | exact ⟨by assumption, by assumption⟩
     ·
      intro g41
      have g41p0 : (bits .and .i64 set ((1 : Int) * 2 ^ v10)) ≠ 0 := (Go.Am.bne_pos g41)
      first | assumption | exact ⟨by assumption, by assumption⟩
     ·
      intro g42
      have g42p0 : (bits .and .i64 set ((1 : Int) * 2 ^ v10)) ≠ 0 := (Go.Am.bne_pos g42)
      first | assumption | exact ⟨by assumption, by assumption⟩
     ·
      intro g43
      have g43p0 : (bits .and .i64 set ((1 : Int) * 2 ^ v10)) ≠ 0 := (Go.Am.bne_pos g43)
      first | assumption | exact ⟨by assumption, by assumption⟩
    refine AW.cd (bif ((bits .and .i64 set ((1 : Int) * 2 ^ v10)) != 0) then (!(bif ((Val.Null (List.getD a v10 Val.zero)) == (Val.Null (List.getD b v10 Val.zero))) then (bif ((Val.N (List.getD a v10 Val.zero)) == (Val.N (List.getD b v10 Val.zero))) then true else false) else false)) else false) ?_ ?_
    ·
     intro h44
     have h44q : ((bits .and .i64 set ((1 : Int) * 2 ^ v10)) ≠ 0) ∧ ((((Val.Null (List.getD a v10 Val.zero)) == (Val.Null (List.getD b v10 Val.zero))) = false) ∨ (((Val.N (List.getD a v10 Val.zero)) ≠ (Val.N (List.getD b v10 Val.zero))) ∨ (true = false))) := (And.imp (fun h => (Go.Am.bne_pos h)) (fun h => (Or.imp (fun h => h) (fun h => (Or.imp (fun h => (Go.Am.beq_neg h)) (fun h => h) (Go.Am.and_neg h))) (Go.Am.and_neg (Go.Am.not_pos h)))) (Go.Am.and_pos h44))
     have e45 := e32.trans (Go.Am.bif_t h44)
     refine AW.seq (AW.r1 hC [6] [] ⟨[(6, .bool false)], []⟩ ?_)
     refine AW.ret ?_
     have e46 := e0.trans (Go.Am.elim_r e45)
     exact AW.retE (β := Bool) (fun v => [⟨.bool, v⟩]) (fun v => []) (v := false) e46 (by kernel_rfl) rfl rfl
    ·
     intro h47
     have h47q : ((bits .and .i64 set ((1 : Int) * 2 ^ v10)) = 0) ∨ ((((Val.Null (List.getD a v10 Val.zero)) == (Val.Null (List.getD b v10 Val.zero))) = true) ∧ (((Val.N (List.getD a v10 Val.zero)) = (Val.N (List.getD b v10 Val.zero))) ∧ (true = true))) := (Or.imp (fun h => (Go.Am.bne_neg h)) (fun h => (And.imp (fun h => h) (fun h => (And.imp (fun h => (Go.Am.beq_pos h)) (fun h => h) (Go.Am.and_pos h))) (Go.Am.and_pos (Go.Am.not_neg h)))) (Go.Am.and_neg h47))
     have e48 := e32.trans (Go.Am.bif_f h47)
     refine AW.kp [0, 1, 2, 9, 10] [] ⟨[(0, .int .i64 set), (1, .data (.slice (.named 1)) (a : List Val)), (2, .data (.slice (.named 1)) (b : List Val)), (9, .int .i64 ((List.length a : Nat) : Int)), (10, .int .i64 ((v10 : Nat) : Int))], []⟩ ?_
     refine AW.skip (AW.r0 hC [0, 1, 2, 9, 10] [] ⟨[(0, .int .i64 set), (1, .data (.slice (.named 1)) (a : List Val)), (2, .data (.slice (.named 1)) (b : List Val)), (9, .int .i64 ((List.length a : Nat) : Int)), (10, .int .i64 ((v10 + 1 : Nat) : Int))], []⟩ [(-9223372036854775808 ≤ ((v10 + 1 : Nat) : Int) ∧ ((v10 + 1 : Nat) : Int) ≤ 9223372036854775807)] ?_ ?_)
     ·
      refine ⟨?_, trivial⟩
      ·
       first | omega | (dsimp only; omega) | (simp only [lens] at *; omega)
     refine AW.back (x := v10) (v10 + 1) (by kernel_rfl) ⟨?_, k30q, ?_, e48⟩ ?_
     ·
      show True
      first | assumption | exact trivial | (refine ⟨?_, ?_⟩ <;> first | omega | (simp only [lens] at *; omega)) | omega | (simp only [lens] at *; omega)
     ·
      show (List.length a) - (v10 + 1) < k30q
      first | omega | (simp only [lens]; omega)
     ·
      show (List.length a) - (v10 + 1) < (List.length a) - v10
      first | omega | (simp only [lens]; omega)
   ·
    intro h49
    have h49q : ¬ (((v10 : Nat) : Int) < ((List.length a : Nat) : Int)) := (of_decide_eq_false h49)
    have e50 := e29.trans (Go.Am.bif_f h49)
    refine AW.kp [] [] ⟨[], []⟩ ?_
    refine AW.exit ?_
    refine AW.meet () (by kernel_rfl) ⟨?_, e50⟩
    show True
    first | assumption | exact trivial | omega
 ·
  intro x hR
  obtain ⟨hJ0, e51⟩ := hR
  replace hJ0 : True := hJ0
  have e52 := e0.trans (Go.Am.elim_l e51)
  refine AW.seq (AW.r1 hC [6] [] ⟨[(6, .bool true)], []⟩ ?_)
  exact AW.ret (AW.retE (β := Bool) (fun v => [⟨.bool, v⟩]) (fun v => []) (v := true) e52 (by kernel_rfl) rfl rfl)

end
end Go.Proofs.Ytbhgdogogpihhaa
