/-
  A part of the proof of this claim (As4): what functions of the program compute, and plain facts of that. No conditions.
-/
import Derived.Test.YtbhgdogogpihhaaAs3
import Derived.Test.YtbhgdogogpihhaaAnB
set_option linter.all false
namespace Go.Proofs.Ytbhgdogogpihhaa
open Go Go.Am
noncomputable section

theorem agree_eq {a b : List Val} {set : Int} (h0 : 0 ≤ set) (h1 : set < 64) (ha : a.length ≤ 6) : agreeIn set a b = agree a b set := by
 unfold agreeIn agree
 have key : ∀ k i, agreeIn_l0 set a b k i = agree_l0 a b set k i := by
  intro k
  induction k with
  | zero => intro i; rfl
  | succ k ih =>
   intro i
   unfold agreeIn_l0 agree_l0
   by_cases h : i < a.length
   ·
    rw [lt_dec h, cond_true, cond_true, bit_ne h0 (by omega) (by omega), cmpV_ne, ih]
    rfl
   ·
    rw [ge_dec h]
    rfl
 rw [key]

theorem ivalidSet_iff {s w : Int} : ivalidSet s w = true ↔ 0 ≤ s ∧ s < 2 ^ w.toNat := by
 unfold ivalidSet
 by_cases h : 0 ≤ s <;> simp [h]

theorem depValid_iff {f : Dep} {w : Int} : depValid f w = true ↔ (0 ≤ f.From ∧ f.From < 2 ^ w.toNat) ∧ (0 ≤ f.To ∧ f.To < 2 ^ w.toNat) := by
 unfold depValid
 cases h : ivalidSet f.From w with
 | false => simp [← ivalidSet_iff, h]
 | true => simp [← ivalidSet_iff, h]

theorem validSet_iff {s w : Int} : validSet s w = true ↔ (1 ≤ w ∧ w ≤ 6) ∧ ivalidSet s w = true := by
 unfold validSet
 rw [← inRange_iff, ivalidSet_iff]
 cases h : inRange w 1 6 with
 | false => simp
 | true =>
  simp only [cond_true, true_and]
  rw [inRange_iff]
  omega

/-- what the loops want to know -/
theorem okRows {t : Tab} {f : Dep} (h : VT t) (hf : depValid f t.Width = true) : ((0 ≤ f.From ∧ f.From < 64) ∧ (0 ≤ f.To ∧ f.To < 64)) ∧ ∀ i < t.Rows.length, (rowAt t i).length ≤ 6 ∧ ∀ k < t.Rows.length, (rowAt t k).length = (rowAt t i).length := by
 have hd := depValid_iff.1 hf
 have hp := pow64 (w := t.Width) h.w6 (by have := h.w1; omega)
 refine ⟨⟨⟨hd.1.1, by omega⟩, hd.2.1, by omega⟩, fun i hi => ⟨(h.rows i hi).1.n6, fun k hk => ?_⟩⟩
 have h1 := (h.rows i hi).2
 have h2 := (h.rows k hk).2
 omega

theorem getD_take {α : Type} {l : List α} {d : α} {i k : Nat} (h : k < (List.take i l).length) : List.getD (List.take i l) k d = List.getD l k d := by
 rw [List.length_take] at h
 simp only [List.getD_eq_getElem?_getD]
 rw [List.getElem?_take_of_lt (by omega)]

theorem okS {t : Tab} {f : Dep} (h : (ValidTable t = true) ∧ depValid f t.Width = true) {i k : Nat} (hi : i < t.Rows.length) (hk : k < (List.take i t.Rows).length) :
  ((0 ≤ f.From ∧ f.From < 64) ∧ (List.getD t.Rows i []).length ≤ 6 ∧ (List.getD (List.take i t.Rows) k []).length = (List.getD t.Rows i []).length) ∧ ((0 ≤ f.To ∧ f.To < 64) ∧ (List.getD t.Rows i []).length ≤ 6 ∧ (List.getD (List.take i t.Rows) k []).length = (List.getD t.Rows i []).length) := by
 obtain ⟨h1, h2⟩ := okRows (ValidTable_iff.1 h.1) h.2
 have hk' := hk
 rw [List.length_take] at hk'
 rw [getD_take hk]
 exact ⟨⟨h1.1, (h2 i hi).1, (h2 i hi).2 k (by omega)⟩, ⟨h1.2, (h2 i hi).1, (h2 i hi).2 k (by omega)⟩⟩

theorem okT {t : Tab} {f : Dep} (h : ((validTable t = true) ∧ validSet f.From t.Width = true) ∧ validSet f.To t.Width = true) {i k : Nat} (hi : i < t.Rows.length) (hk : k < i) :
  ((0 ≤ f.From) ∧ (List.getD t.Rows i []).length ≤ 6 ∧ (List.getD t.Rows k []).length = (List.getD t.Rows i []).length) ∧ ((0 ≤ f.To) ∧ (List.getD t.Rows i []).length ≤ 6 ∧ (List.getD t.Rows k []).length = (List.getD t.Rows i []).length) := by
 have h3 : depValid f t.Width = true := depValid_iff.2 ⟨ivalidSet_iff.1 (validSet_iff.1 h.1.2).2, ivalidSet_iff.1 (validSet_iff.1 h.2).2⟩
 obtain ⟨h1, h2⟩ := okRows (validTable_iff.1 h.1.1) h3
 exact ⟨⟨h1.1.1, (h2 i hi).1, (h2 i hi).2 k (by omega)⟩, ⟨h1.2.1, (h2 i hi).1, (h2 i hi).2 k (by omega)⟩⟩

def HoldsIn_l1 (f : Dep) (t : Tab) (v22 : Nat) : Nat → Nat → Unit ⊕ Bool
 | 0, v32 => .inl ()
 | k + 1, v32 => (bif (decide (((v32 : Nat) : Int) < ((List.length (List.take v22 (Tab.Rows t)) : Nat) : Int))) then (bif (bif (agreeIn (Dep.From f) (List.getD (Tab.Rows t) v22 []) (List.getD (List.take v22 (Tab.Rows t)) v32 [])) then (!(agreeIn (Dep.To f) (List.getD (Tab.Rows t) v22 []) (List.getD (List.take v22 (Tab.Rows t)) v32 []))) else false) then (.inr false) else (HoldsIn_l1 f t v22 k (v32 + 1))) else (.inl ()))

def HoldsIn_l0 (f : Dep) (t : Tab) : Nat → Nat → Unit ⊕ Bool
 | 0, v22 => .inl ()
 | k + 1, v22 => (bif (decide (((v22 : Nat) : Int) < ((List.length (Tab.Rows t) : Nat) : Int))) then (Sum.elim (fun _ => (HoldsIn_l0 f t k (v22 + 1))) (fun r => (.inr r)) (HoldsIn_l1 f t v22 ((List.length (List.take v22 (Tab.Rows t))) - 0 + 1) 0)) else (.inl ()))

def HoldsIn (f : Dep) (t : Tab) : Bool := (bif (bif (!(ValidTable t)) then true else (!(depValid f (Tab.Width t)))) then false else (Sum.elim (fun _ => true) (fun r => r) (HoldsIn_l0 f t ((List.length (Tab.Rows t)) - 0 + 1) 0)))

def HoldsIn_sp : FnSpec := mkSpec [.val (.named 0), .val (.named 2)] [.val .bool] (fun (f : Dep) (t : Tab) => True) (fun (f : Dep) (t : Tab) => [⟨.bool, (HoldsIn f t)⟩])

theorem HoldsIn_ok : FnOK Try.prog 14 HoldsIn_sp := by
 have hC : CtxOK Try.prog (mkCtx tyL [(16, ValidTable_sp), (54, depValid_sp), (55, agreeIn_sp)]) := CtxOK.cons ValidTable_ok (CtxOK.cons depValid_ok (CtxOK.cons agreeIn_ok (CtxOK.nil tyOK)))
 refine FnOK.of_body Try.func14 (by kernel_rfl) rfl (C := (mkCtx tyL [(16, ValidTable_sp), (54, depValid_sp), (55, agreeIn_sp)])) hC.ty (by kernel_rfl) ?_
 intro (f : Dep) (t : Tab) hwf hpre E
 have hpre : True := hpre
 have hw_f : Wf ⟨(.named 0), (f : Dep)⟩ := hwf _ (List.Mem.head _)
 have hr_f_From : -9223372036854775808 ≤ Dep.From f ∧ Dep.From f ≤ 9223372036854775807 := (hw_f.field (tv := ⟨(.int .i64), Dep.From f⟩) (List.Mem.head _)).int_inv
 have hr_f_To : -9223372036854775808 ≤ Dep.To f ∧ Dep.To f ≤ 9223372036854775807 := (hw_f.field (tv := ⟨(.int .i64), Dep.To f⟩) (List.Mem.tail _ (List.Mem.head _))).int_inv
 have hw_t : Wf ⟨(.named 2), (t : Tab)⟩ := hwf _ (List.Mem.tail _ (List.Mem.head _))
 have hr_t_Width : -9223372036854775808 ≤ Tab.Width t ∧ Tab.Width t ≤ 9223372036854775807 := (hw_t.field (tv := ⟨(.int .i64), Tab.Width t⟩) (List.Mem.head _)).int_inv
 have hl_t_Rows : ((List.length (Tab.Rows t) : Nat) : Int) ≤ 9223372036854775807 := (hw_t.field (tv := ⟨(.slice (.slice (.named 1))), Tab.Rows t⟩) (List.Mem.tail _ (List.Mem.head _))).len
 have e0 : HoldsIn f t = HoldsIn f t := rfl
 refine AW.seq (AW.r1 hC [2, 3] [8, 12] ⟨[(2, .ref 8 1 0), (3, .ref 12 1 0)], [(8, .box 1 [.int .i64 (Dep.From f), .int .i64 (Dep.To f)]), (12, .box 1 [.int .i64 (Tab.Width t), .data (.slice (.slice (.named 1))) ((Tab.Rows t) : List (List Val))])]⟩ ?_)
 refine AW.seq (AW.seq (AW.r0 hC [2, 3, 18] [8, 12] ⟨[(2, .ref 8 1 0), (3, .ref 12 1 0), (18, .bool (bif (!(ValidTable t)) then true else (!(depValid f (Tab.Width t)))))], [(8, .box 1 [.int .i64 (Dep.From f), .int .i64 (Dep.To f)]), (12, .box 1 [.int .i64 (Tab.Width t), .data (.slice (.slice (.named 1))) ((Tab.Rows t) : List (List Val))])]⟩ [(True), (((!(ValidTable t)) = false) → (((!(ValidTable t)) = false))), (((!(ValidTable t)) = false) → (((!(ValidTable t)) = false))), (((!(ValidTable t)) = false) → (((!(ValidTable t)) = false))), (((!(ValidTable t)) = false) → (1 ≤ (Tab.Width t) ∧ (Tab.Width t) ≤ 6)), (((!(ValidTable t)) = false) → (((!(ValidTable t)) = false))), (((!(ValidTable t)) = false) → (((!(ValidTable t)) = false)))] ?_ ?_))
 ·
  refine ⟨?_, ?_, ?_, ?_, ?_, ?_, ?_, trivial⟩
  ·
   trivial
  ·
   intro g1
   have g1p0 : (ValidTable t) = true := (Go.Am.not_neg g1)
   first | assumption | exact ⟨by assumption, by assumption⟩
  ·
   intro g2
   have g2p0 : (ValidTable t) = true := (Go.Am.not_neg g2)
   first | assumption | exact ⟨by assumption, by assumption⟩
  ·
   intro g3
   have g3p0 : (ValidTable t) = true := (Go.Am.not_neg g3)
   first | assumption | exact ⟨by assumption, by assumption⟩
  ·
   intro g4
   have g4p0 : (ValidTable t) = true := (Go.Am.not_neg g4)
   have := ValidTable_iff.1 g4p0
   exact ⟨this.w1, this.w6⟩
  ·
   intro g5
   have g5p0 : (ValidTable t) = true := (Go.Am.not_neg g5)
   first | assumption | exact ⟨by assumption, by assumption⟩
  ·
   intro g6
   have g6p0 : (ValidTable t) = true := (Go.Am.not_neg g6)
   first | assumption | exact ⟨by assumption, by assumption⟩
 refine AW.cd (bif (!(ValidTable t)) then true else (!(depValid f (Tab.Width t)))) ?_ ?_
 ·
  intro h7
  have h7q : ((ValidTable t) = false) ∨ ((depValid f (Tab.Width t)) = false) := (Or.imp (fun h => (Go.Am.not_pos h)) (fun h => (Go.Am.not_pos h)) (Go.Am.or_pos h7))
  have e8 := e0.trans (Go.Am.bif_t h7)
  refine AW.seq (AW.r1 hC [4] [] ⟨[(4, .bool false)], []⟩ ?_)
  exact AW.ret (AW.retE (β := Bool) (fun v => [⟨.bool, v⟩]) (fun v => []) (v := false) e8 (by kernel_rfl) rfl rfl)
 ·
  intro h9
  have h9q : ((ValidTable t) = true) ∧ ((depValid f (Tab.Width t)) = true) := (And.imp (fun h => (Go.Am.not_neg h)) (fun h => (Go.Am.not_neg h)) (Go.Am.or_neg h9))
  have e10 := e0.trans (Go.Am.bif_f h9)
  refine AW.kp [2, 3] [8, 12] ⟨[(2, .ref 8 1 0), (3, .ref 12 1 0)], [(8, .box 1 [.int .i64 (Dep.From f), .int .i64 (Dep.To f)]), (12, .box 1 [.int .i64 (Tab.Width t), .data (.slice (.slice (.named 1))) ((Tab.Rows t) : List (List Val))])]⟩ ?_
  refine AW.skip (AW.seq (AW.seq (AW.r1 hC [2, 3, 20, 21, 22] [8, 12] ⟨[(2, .ref 8 1 0), (3, .ref 12 1 0), (20, .data (.slice (.slice (.named 1))) ((Tab.Rows t) : List (List Val))), (21, .int .i64 ((List.length (Tab.Rows t) : Nat) : Int)), (22, .int .i64 0)], [(8, .box 1 [.int .i64 (Dep.From f), .int .i64 (Dep.To f)]), (12, .box 1 [.int .i64 (Tab.Width t), .data (.slice (.slice (.named 1))) ((Tab.Rows t) : List (List Val))])]⟩ ?_)))
  refine AW.cutQ (α := Unit) (fun x => ⟨[], []⟩) (fun x => (True) ∧ (HoldsIn_l0 f t ((List.length (Tab.Rows t)) - 0 + 1) 0) = (.inl ())) ?_ ?_
  ·
   skip
   refine AW.block (AW.loop (α := Nat) (fun x => ⟨[(2, .ref 8 1 0), (3, .ref 12 1 0), (20, .data (.slice (.slice (.named 1))) ((Tab.Rows t) : List (List Val))), (21, .int .i64 ((List.length (Tab.Rows t) : Nat) : Int)), (22, .int .i64 ((x : Nat) : Int))], [(8, .box 1 [.int .i64 (Dep.From f), .int .i64 (Dep.To f)]), (12, .box 1 [.int .i64 (Tab.Width t), .data (.slice (.slice (.named 1))) ((Tab.Rows t) : List (List Val))])]⟩) (fun x => (True) ∧ ∃ k, (List.length (Tab.Rows t)) - x < k ∧ (HoldsIn_l0 f t ((List.length (Tab.Rows t)) - 0 + 1) 0) = HoldsIn_l0 f t k x) (fun x => (List.length (Tab.Rows t)) - x) 0 (by kernel_rfl) ⟨?_, _, Nat.lt_succ_self _, rfl⟩ ?_)
   ·
    show True
    first | exact trivial | (refine ⟨?_, ?_⟩ <;> first | omega | simp) | omega | simp
   ·
    intro v22 hR
    obtain ⟨hI0, k160, hk158, e159⟩ := hR
    replace hI0 : True := hI0
    replace hk158 : (List.length (Tab.Rows t)) - v22 < k160 := hk158
    obtain ⟨k160q, rfl⟩ : ∃ k, k160 = k + 1 := ⟨k160 - 1, by omega⟩
    refine AW.seq (AW.r1 hC [2, 3, 20, 21, 22, 23] [8, 12] ⟨[(2, .ref 8 1 0), (3, .ref 12 1 0), (20, .data (.slice (.slice (.named 1))) ((Tab.Rows t) : List (List Val))), (21, .int .i64 ((List.length (Tab.Rows t) : Nat) : Int)), (22, .int .i64 ((v22 : Nat) : Int)), (23, .bool (decide (((v22 : Nat) : Int) < ((List.length (Tab.Rows t) : Nat) : Int))))], [(8, .box 1 [.int .i64 (Dep.From f), .int .i64 (Dep.To f)]), (12, .box 1 [.int .i64 (Tab.Width t), .data (.slice (.slice (.named 1))) ((Tab.Rows t) : List (List Val))])]⟩ ?_)
    refine AW.seq (AW.cd (decide (((v22 : Nat) : Int) < ((List.length (Tab.Rows t) : Nat) : Int))) ?_ ?_)
    ·
     intro h161
     have h161q : ((v22 : Nat) : Int) < ((List.length (Tab.Rows t) : Nat) : Int) := (of_decide_eq_true h161)
     have e162 := e159.trans (Go.Am.bif_t h161)
     refine AW.kp [2, 3, 20, 21, 22] [8, 12] ⟨[(2, .ref 8 1 0), (3, .ref 12 1 0), (20, .data (.slice (.slice (.named 1))) ((Tab.Rows t) : List (List Val))), (21, .int .i64 ((List.length (Tab.Rows t) : Nat) : Int)), (22, .int .i64 ((v22 : Nat) : Int))], [(8, .box 1 [.int .i64 (Dep.From f), .int .i64 (Dep.To f)]), (12, .box 1 [.int .i64 (Tab.Width t), .data (.slice (.slice (.named 1))) ((Tab.Rows t) : List (List Val))])]⟩ ?_
     refine AW.skip (AW.seq (AW.block (AW.seq (AW.r0 hC [2, 3, 5, 6, 20, 21, 22] [8, 12] ⟨[(2, .ref 8 1 0), (3, .ref 12 1 0), (5, .int .i64 ((v22 : Nat) : Int)), (6, .data (.slice (.named 1)) ((List.getD (Tab.Rows t) v22 []) : List Val)), (20, .data (.slice (.slice (.named 1))) ((Tab.Rows t) : List (List Val))), (21, .int .i64 ((List.length (Tab.Rows t) : Nat) : Int)), (22, .int .i64 ((v22 : Nat) : Int))], [(8, .box 1 [.int .i64 (Dep.From f), .int .i64 (Dep.To f)]), (12, .box 1 [.int .i64 (Tab.Width t), .data (.slice (.slice (.named 1))) ((Tab.Rows t) : List (List Val))])]⟩ [(0 ≤ ((v22 : Nat) : Int) ∧ ((v22 : Nat) : Int) < ((List.length (Tab.Rows t) : Nat) : Int))] ?_ ?_))))
     ·
      refine ⟨?_, trivial⟩
      ·
       first | omega | (dsimp only; omega) | (simp only [lens] at *; omega)
     refine AW.seq (AW.r0 hC [2, 3, 6, 20, 21, 22, 30, 31, 32] [8, 12] ⟨[(2, .ref 8 1 0), (3, .ref 12 1 0), (6, .data (.slice (.named 1)) ((List.getD (Tab.Rows t) v22 []) : List Val)), (20, .data (.slice (.slice (.named 1))) ((Tab.Rows t) : List (List Val))), (21, .int .i64 ((List.length (Tab.Rows t) : Nat) : Int)), (22, .int .i64 ((v22 : Nat) : Int)), (30, .data (.slice (.slice (.named 1))) ((List.take v22 (Tab.Rows t)) : List (List Val))), (31, .int .i64 ((List.length (List.take v22 (Tab.Rows t)) : Nat) : Int)), (32, .int .i64 0)], [(8, .box 1 [.int .i64 (Dep.From f), .int .i64 (Dep.To f)]), (12, .box 1 [.int .i64 (Tab.Width t), .data (.slice (.slice (.named 1))) ((Tab.Rows t) : List (List Val))])]⟩ [(0 ≤ ((v22 : Nat) : Int) ∧ ((v22 : Nat) : Int) ≤ ((List.length (Tab.Rows t) : Nat) : Int))] ?_ ?_)
     ·
      refine ⟨?_, trivial⟩
      ·
       first | omega | (dsimp only; omega) | (simp only [lens] at *; omega)
     refine AW.cutQ (α := Unit) (fun x => ⟨[(2, .ref 8 1 0), (3, .ref 12 1 0), (20, .data (.slice (.slice (.named 1))) ((Tab.Rows t) : List (List Val))), (21, .int .i64 ((List.length (Tab.Rows t) : Nat) : Int)), (22, .int .i64 ((v22 : Nat) : Int))], [(8, .box 1 [.int .i64 (Dep.From f), .int .i64 (Dep.To f)]), (12, .box 1 [.int .i64 (Tab.Width t), .data (.slice (.slice (.named 1))) ((Tab.Rows t) : List (List Val))])]⟩) (fun x => (True) ∧ (HoldsIn_l1 f t v22 ((List.length (List.take v22 (Tab.Rows t))) - 0 + 1) 0) = (.inl ())) ?_ ?_
     ·
      skip
      refine AW.block (AW.loop (α := Nat) (fun x => ⟨[(2, .ref 8 1 0), (3, .ref 12 1 0), (6, .data (.slice (.named 1)) ((List.getD (Tab.Rows t) v22 []) : List Val)), (20, .data (.slice (.slice (.named 1))) ((Tab.Rows t) : List (List Val))), (21, .int .i64 ((List.length (Tab.Rows t) : Nat) : Int)), (22, .int .i64 ((v22 : Nat) : Int)), (30, .data (.slice (.slice (.named 1))) ((List.take v22 (Tab.Rows t)) : List (List Val))), (31, .int .i64 ((List.length (List.take v22 (Tab.Rows t)) : Nat) : Int)), (32, .int .i64 ((x : Nat) : Int))], [(8, .box 1 [.int .i64 (Dep.From f), .int .i64 (Dep.To f)]), (12, .box 1 [.int .i64 (Tab.Width t), .data (.slice (.slice (.named 1))) ((Tab.Rows t) : List (List Val))])]⟩) (fun x => (True) ∧ ∃ k, (List.length (List.take v22 (Tab.Rows t))) - x < k ∧ (HoldsIn_l1 f t v22 ((List.length (List.take v22 (Tab.Rows t))) - 0 + 1) 0) = HoldsIn_l1 f t v22 k x) (fun x => (List.length (List.take v22 (Tab.Rows t))) - x) 0 (by kernel_rfl) ⟨?_, _, Nat.lt_succ_self _, rfl⟩ ?_)
      ·
       show True
       first | exact trivial | (refine ⟨?_, ?_⟩ <;> first | omega | simp) | omega | simp
      ·
       intro v32 hR
       obtain ⟨hI1, k195, hk193, e194⟩ := hR
       replace hI1 : True := hI1
       replace hk193 : (List.length (List.take v22 (Tab.Rows t))) - v32 < k195 := hk193
       obtain ⟨k195q, rfl⟩ : ∃ k, k195 = k + 1 := ⟨k195 - 1, by omega⟩
       refine AW.seq (AW.r1 hC [2, 3, 6, 20, 21, 22, 30, 31, 32, 33] [8, 12] ⟨[(2, .ref 8 1 0), (3, .ref 12 1 0), (6, .data (.slice (.named 1)) ((List.getD (Tab.Rows t) v22 []) : List Val)), (20, .data (.slice (.slice (.named 1))) ((Tab.Rows t) : List (List Val))), (21, .int .i64 ((List.length (Tab.Rows t) : Nat) : Int)), (22, .int .i64 ((v22 : Nat) : Int)), (30, .data (.slice (.slice (.named 1))) ((List.take v22 (Tab.Rows t)) : List (List Val))), (31, .int .i64 ((List.length (List.take v22 (Tab.Rows t)) : Nat) : Int)), (32, .int .i64 ((v32 : Nat) : Int)), (33, .bool (decide (((v32 : Nat) : Int) < ((List.length (List.take v22 (Tab.Rows t)) : Nat) : Int))))], [(8, .box 1 [.int .i64 (Dep.From f), .int .i64 (Dep.To f)]), (12, .box 1 [.int .i64 (Tab.Width t), .data (.slice (.slice (.named 1))) ((Tab.Rows t) : List (List Val))])]⟩ ?_)
       refine AW.seq (AW.cd (decide (((v32 : Nat) : Int) < ((List.length (List.take v22 (Tab.Rows t)) : Nat) : Int))) ?_ ?_)
       ·
        intro h196
        have h196q : ((v32 : Nat) : Int) < ((List.length (List.take v22 (Tab.Rows t)) : Nat) : Int) := (of_decide_eq_true h196)
        have e197 := e194.trans (Go.Am.bif_t h196)
        refine AW.kp [2, 3, 6, 20, 21, 22, 30, 31, 32] [8, 12] ⟨[(2, .ref 8 1 0), (3, .ref 12 1 0), (6, .data (.slice (.named 1)) ((List.getD (Tab.Rows t) v22 []) : List Val)), (20, .data (.slice (.slice (.named 1))) ((Tab.Rows t) : List (List Val))), (21, .int .i64 ((List.length (Tab.Rows t) : Nat) : Int)), (22, .int .i64 ((v22 : Nat) : Int)), (30, .data (.slice (.slice (.named 1))) ((List.take v22 (Tab.Rows t)) : List (List Val))), (31, .int .i64 ((List.length (List.take v22 (Tab.Rows t)) : Nat) : Int)), (32, .int .i64 ((v32 : Nat) : Int))], [(8, .box 1 [.int .i64 (Dep.From f), .int .i64 (Dep.To f)]), (12, .box 1 [.int .i64 (Tab.Width t), .data (.slice (.slice (.named 1))) ((Tab.Rows t) : List (List Val))])]⟩ ?_
        refine AW.skip (AW.seq (AW.block (AW.seq (AW.r0 hC [2, 3, 6, 8, 20, 21, 22, 30, 31, 32] [8, 12] ⟨[(2, .ref 8 1 0), (3, .ref 12 1 0), (6, .data (.slice (.named 1)) ((List.getD (Tab.Rows t) v22 []) : List Val)), (8, .data (.slice (.named 1)) ((List.getD (List.take v22 (Tab.Rows t)) v32 []) : List Val)), (20, .data (.slice (.slice (.named 1))) ((Tab.Rows t) : List (List Val))), (21, .int .i64 ((List.length (Tab.Rows t) : Nat) : Int)), (22, .int .i64 ((v22 : Nat) : Int)), (30, .data (.slice (.slice (.named 1))) ((List.take v22 (Tab.Rows t)) : List (List Val))), (31, .int .i64 ((List.length (List.take v22 (Tab.Rows t)) : Nat) : Int)), (32, .int .i64 ((v32 : Nat) : Int))], [(8, .box 1 [.int .i64 (Dep.From f), .int .i64 (Dep.To f)]), (12, .box 1 [.int .i64 (Tab.Width t), .data (.slice (.slice (.named 1))) ((Tab.Rows t) : List (List Val))])]⟩ [(0 ≤ ((v32 : Nat) : Int) ∧ ((v32 : Nat) : Int) < ((List.length (List.take v22 (Tab.Rows t)) : Nat) : Int))] ?_ ?_))))
        ·
         refine ⟨?_, trivial⟩
         ·
          first | omega | (dsimp only; omega) | (simp only [lens] at *; omega)
        refine AW.seq (AW.r0 hC [2, 3, 6, 20, 21, 22, 30, 31, 32, 48] [8, 12] ⟨[(2, .ref 8 1 0), (3, .ref 12 1 0), (6, .data (.slice (.named 1)) ((List.getD (Tab.Rows t) v22 []) : List Val)), (20, .data (.slice (.slice (.named 1))) ((Tab.Rows t) : List (List Val))), (21, .int .i64 ((List.length (Tab.Rows t) : Nat) : Int)), (22, .int .i64 ((v22 : Nat) : Int)), (30, .data (.slice (.slice (.named 1))) ((List.take v22 (Tab.Rows t)) : List (List Val))), (31, .int .i64 ((List.length (List.take v22 (Tab.Rows t)) : Nat) : Int)), (32, .int .i64 ((v32 : Nat) : Int)), (48, .bool (bif (agreeIn (Dep.From f) (List.getD (Tab.Rows t) v22 []) (List.getD (List.take v22 (Tab.Rows t)) v32 [])) then (!(agreeIn (Dep.To f) (List.getD (Tab.Rows t) v22 []) (List.getD (List.take v22 (Tab.Rows t)) v32 []))) else false))], [(8, .box 1 [.int .i64 (Dep.From f), .int .i64 (Dep.To f)]), (12, .box 1 [.int .i64 (Tab.Width t), .data (.slice (.slice (.named 1))) ((Tab.Rows t) : List (List Val))])]⟩ [((0 ≤ (Dep.From f) ∧ (Dep.From f) < 64) ∧ (List.getD (Tab.Rows t) v22 []).length ≤ 6 ∧ (List.getD (List.take v22 (Tab.Rows t)) v32 []).length = (List.getD (Tab.Rows t) v22 []).length), (((agreeIn (Dep.From f) (List.getD (Tab.Rows t) v22 []) (List.getD (List.take v22 (Tab.Rows t)) v32 [])) = true) → (((agreeIn (Dep.From f) (List.getD (Tab.Rows t) v22 []) (List.getD (List.take v22 (Tab.Rows t)) v32 [])) = true))), (((agreeIn (Dep.From f) (List.getD (Tab.Rows t) v22 []) (List.getD (List.take v22 (Tab.Rows t)) v32 [])) = true) → (((agreeIn (Dep.From f) (List.getD (Tab.Rows t) v22 []) (List.getD (List.take v22 (Tab.Rows t)) v32 [])) = true))), (((agreeIn (Dep.From f) (List.getD (Tab.Rows t) v22 []) (List.getD (List.take v22 (Tab.Rows t)) v32 [])) = true) → (((agreeIn (Dep.From f) (List.getD (Tab.Rows t) v22 []) (List.getD (List.take v22 (Tab.Rows t)) v32 [])) = true))), (((agreeIn (Dep.From f) (List.getD (Tab.Rows t) v22 []) (List.getD (List.take v22 (Tab.Rows t)) v32 [])) = true) → (((agreeIn (Dep.From f) (List.getD (Tab.Rows t) v22 []) (List.getD (List.take v22 (Tab.Rows t)) v32 [])) = true))), (((agreeIn (Dep.From f) (List.getD (Tab.Rows t) v22 []) (List.getD (List.take v22 (Tab.Rows t)) v32 [])) = true) → ((0 ≤ (Dep.To f) ∧ (Dep.To f) < 64) ∧ (List.getD (Tab.Rows t) v22 []).length ≤ 6 ∧ (List.getD (List.take v22 (Tab.Rows t)) v32 []).length = (List.getD (Tab.Rows t) v22 []).length)), (((agreeIn (Dep.From f) (List.getD (Tab.Rows t) v22 []) (List.getD (List.take v22 (Tab.Rows t)) v32 [])) = true) → (((agreeIn (Dep.From f) (List.getD (Tab.Rows t) v22 []) (List.getD (List.take v22 (Tab.Rows t)) v32 [])) = true))), (((agreeIn (Dep.From f) (List.getD (Tab.Rows t) v22 []) (List.getD (List.take v22 (Tab.Rows t)) v32 [])) = true) → (((agreeIn (Dep.From f) (List.getD (Tab.Rows t) v22 []) (List.getD (List.take v22 (Tab.Rows t)) v32 [])) = true)))] ?_ ?_)
        ·
         refine ⟨?_, ?_, ?_, ?_, ?_, ?_, ?_, ?_, trivial⟩
         ·
          exact (okS h9q (by omega) (by omega)).1
         ·
          intro g198
          have g198p0 : (agreeIn (Dep.From f) (List.getD (Tab.Rows t) v22 []) (List.getD (List.take v22 (Tab.Rows t)) v32 [])) = true := g198
          first | assumption | exact ⟨by assumption, by assumption⟩
         ·
          intro g199
          have g199p0 : (agreeIn (Dep.From f) (List.getD (Tab.Rows t) v22 []) (List.getD (List.take v22 (Tab.Rows t)) v32 [])) = true := g199
          first | assumption | exact ⟨by assumption, by assumption⟩
         ·
          intro g200
          have g200p0 : (agreeIn (Dep.From f) (List.getD (Tab.Rows t) v22 []) (List.getD (List.take v22 (Tab.Rows t)) v32 [])) = true := g200
          first | assumption | exact ⟨by assumption, by assumption⟩
         ·
          intro g201
          have g201p0 : (agreeIn (Dep.From f) (List.getD (Tab.Rows t) v22 []) (List.getD (List.take v22 (Tab.Rows t)) v32 [])) = true := g201
          first | assumption | exact ⟨by assumption, by assumption⟩
         ·
          intro g202
          have g202p0 : (agreeIn (Dep.From f) (List.getD (Tab.Rows t) v22 []) (List.getD (List.take v22 (Tab.Rows t)) v32 [])) = true := g202
          exact (okS h9q (by omega) (by omega)).2
         ·
          intro g203
          have g203p0 : (agreeIn (Dep.From f) (List.getD (Tab.Rows t) v22 []) (List.getD (List.take v22 (Tab.Rows t)) v32 [])) = true := g203
          first | assumption | exact ⟨by assumption, by assumption⟩
         ·
          intro g204
          have g204p0 : (agreeIn (Dep.From f) (List.getD (Tab.Rows t) v22 []) (List.getD (List.take v22 (Tab.Rows t)) v32 [])) = true := g204
          first | assumption | exact ⟨by assumption, by assumption⟩
        refine AW.cd (bif (agreeIn (Dep.From f) (List.getD (Tab.Rows t) v22 []) (List.getD (List.take v22 (Tab.Rows t)) v32 [])) then (!(agreeIn (Dep.To f) (List.getD (Tab.Rows t) v22 []) (List.getD (List.take v22 (Tab.Rows t)) v32 []))) else false) ?_ ?_
        ·
         intro h205
         have h205q : ((agreeIn (Dep.From f) (List.getD (Tab.Rows t) v22 []) (List.getD (List.take v22 (Tab.Rows t)) v32 [])) = true) ∧ ((agreeIn (Dep.To f) (List.getD (Tab.Rows t) v22 []) (List.getD (List.take v22 (Tab.Rows t)) v32 [])) = false) := (And.imp (fun h => h) (fun h => (Go.Am.not_pos h)) (Go.Am.and_pos h205))
         have e206 := e197.trans (Go.Am.bif_t h205)
         refine AW.seq (AW.r1 hC [4] [] ⟨[(4, .bool false)], []⟩ ?_)
         refine AW.ret ?_
         have e207 := e162.trans (Go.Am.elim_r e206)
         have e208 := e10.trans (Go.Am.elim_r e207)
         exact AW.retE (β := Bool) (fun v => [⟨.bool, v⟩]) (fun v => []) (v := false) e208 (by kernel_rfl) rfl rfl
        ·
         intro h209
         have h209q : ((agreeIn (Dep.From f) (List.getD (Tab.Rows t) v22 []) (List.getD (List.take v22 (Tab.Rows t)) v32 [])) = false) ∨ ((agreeIn (Dep.To f) (List.getD (Tab.Rows t) v22 []) (List.getD (List.take v22 (Tab.Rows t)) v32 [])) = true) := (Or.imp (fun h => h) (fun h => (Go.Am.not_neg h)) (Go.Am.and_neg h209))
         have e210 := e197.trans (Go.Am.bif_f h209)
         refine AW.kp [2, 3, 6, 20, 21, 22, 30, 31, 32] [8, 12] ⟨[(2, .ref 8 1 0), (3, .ref 12 1 0), (6, .data (.slice (.named 1)) ((List.getD (Tab.Rows t) v22 []) : List Val)), (20, .data (.slice (.slice (.named 1))) ((Tab.Rows t) : List (List Val))), (21, .int .i64 ((List.length (Tab.Rows t) : Nat) : Int)), (22, .int .i64 ((v22 : Nat) : Int)), (30, .data (.slice (.slice (.named 1))) ((List.take v22 (Tab.Rows t)) : List (List Val))), (31, .int .i64 ((List.length (List.take v22 (Tab.Rows t)) : Nat) : Int)), (32, .int .i64 ((v32 : Nat) : Int))], [(8, .box 1 [.int .i64 (Dep.From f), .int .i64 (Dep.To f)]), (12, .box 1 [.int .i64 (Tab.Width t), .data (.slice (.slice (.named 1))) ((Tab.Rows t) : List (List Val))])]⟩ ?_
         refine AW.skip (AW.r0 hC [2, 3, 6, 20, 21, 22, 30, 31, 32] [8, 12] ⟨[(2, .ref 8 1 0), (3, .ref 12 1 0), (6, .data (.slice (.named 1)) ((List.getD (Tab.Rows t) v22 []) : List Val)), (20, .data (.slice (.slice (.named 1))) ((Tab.Rows t) : List (List Val))), (21, .int .i64 ((List.length (Tab.Rows t) : Nat) : Int)), (22, .int .i64 ((v22 : Nat) : Int)), (30, .data (.slice (.slice (.named 1))) ((List.take v22 (Tab.Rows t)) : List (List Val))), (31, .int .i64 ((List.length (List.take v22 (Tab.Rows t)) : Nat) : Int)), (32, .int .i64 ((v32 + 1 : Nat) : Int))], [(8, .box 1 [.int .i64 (Dep.From f), .int .i64 (Dep.To f)]), (12, .box 1 [.int .i64 (Tab.Width t), .data (.slice (.slice (.named 1))) ((Tab.Rows t) : List (List Val))])]⟩ [(-9223372036854775808 ≤ ((v32 + 1 : Nat) : Int) ∧ ((v32 + 1 : Nat) : Int) ≤ 9223372036854775807)] ?_ ?_)
         ·
          refine ⟨?_, trivial⟩
          ·
           first | omega | (dsimp only; omega) | (simp only [lens] at *; omega)
         refine AW.back (x := v32) (v32 + 1) (by kernel_rfl) ⟨?_, k195q, ?_, e210⟩ ?_
         ·
          show True
          first | assumption | exact trivial | (refine ⟨?_, ?_⟩ <;> first | omega | (simp only [lens] at *; omega)) | omega | (simp only [lens] at *; omega)
         ·
          show (List.length (List.take v22 (Tab.Rows t))) - (v32 + 1) < k195q
          first | omega | (simp only [lens]; omega)
         ·
          show (List.length (List.take v22 (Tab.Rows t))) - (v32 + 1) < (List.length (List.take v22 (Tab.Rows t))) - v32
          first | omega | (simp only [lens]; omega)
       ·
        intro h211
        have h211q : ¬ (((v32 : Nat) : Int) < ((List.length (List.take v22 (Tab.Rows t)) : Nat) : Int)) := (of_decide_eq_false h211)
        have e212 := e194.trans (Go.Am.bif_f h211)
        refine AW.kp [2, 3, 20, 21, 22] [8, 12] ⟨[(2, .ref 8 1 0), (3, .ref 12 1 0), (20, .data (.slice (.slice (.named 1))) ((Tab.Rows t) : List (List Val))), (21, .int .i64 ((List.length (Tab.Rows t) : Nat) : Int)), (22, .int .i64 ((v22 : Nat) : Int))], [(8, .box 1 [.int .i64 (Dep.From f), .int .i64 (Dep.To f)]), (12, .box 1 [.int .i64 (Tab.Width t), .data (.slice (.slice (.named 1))) ((Tab.Rows t) : List (List Val))])]⟩ ?_
        refine AW.exit ?_
        refine AW.meet () (by kernel_rfl) ⟨?_, e212⟩
        show True
        first | assumption | exact trivial | omega
     ·
      intro x hR
      obtain ⟨hJ1, e213⟩ := hR
      replace hJ1 : True := hJ1
      have e214 := e162.trans (Go.Am.elim_l e213)
      refine AW.r0 hC [2, 3, 20, 21, 22] [8, 12] ⟨[(2, .ref 8 1 0), (3, .ref 12 1 0), (20, .data (.slice (.slice (.named 1))) ((Tab.Rows t) : List (List Val))), (21, .int .i64 ((List.length (Tab.Rows t) : Nat) : Int)), (22, .int .i64 ((v22 + 1 : Nat) : Int))], [(8, .box 1 [.int .i64 (Dep.From f), .int .i64 (Dep.To f)]), (12, .box 1 [.int .i64 (Tab.Width t), .data (.slice (.slice (.named 1))) ((Tab.Rows t) : List (List Val))])]⟩ [(-9223372036854775808 ≤ ((v22 + 1 : Nat) : Int) ∧ ((v22 + 1 : Nat) : Int) ≤ 9223372036854775807)] ?_ ?_
      ·
       refine ⟨?_, trivial⟩
       ·
        first | omega | (dsimp only; omega) | (simp only [lens] at *; omega)
      refine AW.back (x := v22) (v22 + 1) (by kernel_rfl) ⟨?_, k160q, ?_, e214⟩ ?_
      ·
       show True
       first | assumption | exact trivial | (refine ⟨?_, ?_⟩ <;> first | omega | (simp only [lens] at *; omega)) | omega | (simp only [lens] at *; omega)
      ·
       show (List.length (Tab.Rows t)) - (v22 + 1) < k160q
       first | omega | (simp only [lens]; omega)
      ·
       show (List.length (Tab.Rows t)) - (v22 + 1) < (List.length (Tab.Rows t)) - v22
       first | omega | (simp only [lens]; omega)
    ·
     intro h215
     have h215q : ¬ (((v22 : Nat) : Int) < ((List.length (Tab.Rows t) : Nat) : Int)) := (of_decide_eq_false h215)
     have e216 := e159.trans (Go.Am.bif_f h215)
     refine AW.kp [] [] ⟨[], []⟩ ?_
     refine AW.exit ?_
     refine AW.meet () (by kernel_rfl) ⟨?_, e216⟩
     show True
     first | assumption | exact trivial | omega
  ·
   intro x hR
   obtain ⟨hJ0, e217⟩ := hR
   replace hJ0 : True := hJ0
   have e218 := e10.trans (Go.Am.elim_l e217)
   refine AW.seq (AW.r1 hC [4] [] ⟨[(4, .bool true)], []⟩ ?_)
   exact AW.ret (AW.retE (β := Bool) (fun v => [⟨.bool, v⟩]) (fun v => []) (v := true) e218 (by kernel_rfl) rfl rfl)

def sHoldsIn_l1 (f : Dep) (t : Tab) (i : Nat) : Nat → Nat → Unit ⊕ Bool
 | 0, k1 => .inl ()
 | k + 1, k1 => (bif (decide (((k1 : Nat) : Int) < ((i : Nat) : Int))) then (bif (bif (agree (List.getD (Tab.Rows t) i []) (List.getD (Tab.Rows t) k1 []) (Dep.From f)) then (!(agree (List.getD (Tab.Rows t) i []) (List.getD (Tab.Rows t) k1 []) (Dep.To f))) else false) then (.inr false) else (sHoldsIn_l1 f t i k (k1 + 1))) else (.inl ()))

def sHoldsIn_l0 (f : Dep) (t : Tab) : Nat → Nat → Unit ⊕ Bool
 | 0, i => .inl ()
 | k + 1, i => (bif (decide (((i : Nat) : Int) < ((List.length (Tab.Rows t) : Nat) : Int))) then (Sum.elim (fun _ => (sHoldsIn_l0 f t k (i + 1))) (fun r => (.inr r)) (sHoldsIn_l1 f t i (i - 0 + 1) 0)) else (.inl ()))

def sHoldsIn (f : Dep) (t : Tab) : Bool := (bif (bif (bif (!(validTable t)) then true else (!(validSet (Dep.From f) (Tab.Width t)))) then true else (!(validSet (Dep.To f) (Tab.Width t)))) then false else (Sum.elim (fun _ => true) (fun r => r) (sHoldsIn_l0 f t ((List.length (Tab.Rows t)) - 0 + 1) 0)))

def sHoldsIn_sp : FnSpec := mkSpec [.val (.named 0), .val (.named 2)] [.val .bool] (fun (f : Dep) (t : Tab) => True) (fun (f : Dep) (t : Tab) => [⟨.bool, (sHoldsIn f t)⟩])

theorem sHoldsIn_ok : FnOK Try.prog 15 sHoldsIn_sp := by
 have hC : CtxOK Try.prog (mkCtx tyL [(56, validTable_sp), (57, validSet_sp), (58, agree_sp)]) := CtxOK.cons validTable_ok (CtxOK.cons validSet_ok (CtxOK.cons agree_ok (CtxOK.nil tyOK)))
 have hM : Try.prog.follows .mixedOrders = true := Try.checked.mixed
 refine FnOK.of_body Try.func15 (by kernel_rfl) rfl (C := (mkCtx tyL [(56, validTable_sp), (57, validSet_sp), (58, agree_sp)])) hC.ty (by kernel_rfl) ?_
 intro (f : Dep) (t : Tab) hwf hpre E
 have hpre : True := hpre
 have hw_f : Wf ⟨(.named 0), (f : Dep)⟩ := hwf _ (List.Mem.head _)
 have hr_f_From : -9223372036854775808 ≤ Dep.From f ∧ Dep.From f ≤ 9223372036854775807 := (hw_f.field (tv := ⟨(.int .i64), Dep.From f⟩) (List.Mem.head _)).int_inv
 have hr_f_To : -9223372036854775808 ≤ Dep.To f ∧ Dep.To f ≤ 9223372036854775807 := (hw_f.field (tv := ⟨(.int .i64), Dep.To f⟩) (List.Mem.tail _ (List.Mem.head _))).int_inv
 have hw_t : Wf ⟨(.named 2), (t : Tab)⟩ := hwf _ (List.Mem.tail _ (List.Mem.head _))
 have hr_t_Width : -9223372036854775808 ≤ Tab.Width t ∧ Tab.Width t ≤ 9223372036854775807 := (hw_t.field (tv := ⟨(.int .i64), Tab.Width t⟩) (List.Mem.head _)).int_inv
 have hl_t_Rows : ((List.length (Tab.Rows t) : Nat) : Int) ≤ 9223372036854775807 := (hw_t.field (tv := ⟨(.slice (.slice (.named 1))), Tab.Rows t⟩) (List.Mem.tail _ (List.Mem.head _))).len
 have e0 : sHoldsIn f t = sHoldsIn f t := rfl
 refine AW.seq (AW.r1 hC [2, 3] [8, 12] ⟨[(2, .ref 8 1 0), (3, .ref 12 1 0)], [(8, .box 1 [.int .i64 (Dep.From f), .int .i64 (Dep.To f)]), (12, .box 1 [.int .i64 (Tab.Width t), .data (.slice (.slice (.named 1))) ((Tab.Rows t) : List (List Val))])]⟩ ?_)
 refine AW.seq (AW.seq (AW.r0 hC [2, 3, 25] [8, 12] ⟨[(2, .ref 8 1 0), (3, .ref 12 1 0), (25, .bool (bif (bif (!(validTable t)) then true else (!(validSet (Dep.From f) (Tab.Width t)))) then true else (!(validSet (Dep.To f) (Tab.Width t)))))], [(8, .box 1 [.int .i64 (Dep.From f), .int .i64 (Dep.To f)]), (12, .box 1 [.int .i64 (Tab.Width t), .data (.slice (.slice (.named 1))) ((Tab.Rows t) : List (List Val))])]⟩ [(True), (((!(validTable t)) = false) → (((!(validTable t)) = false))), (((!(validTable t)) = false) → (((!(validTable t)) = false))), (((!(validTable t)) = false) → (((!(validTable t)) = false))), (((!(validTable t)) = false) → (((!(validTable t)) = false))), (((!(validTable t)) = false) → (True)), (((!(validTable t)) = false) → (((!(validTable t)) = false))), (((!(validTable t)) = false) → (((!(validTable t)) = false))), (((bif (!(validTable t)) then true else (!(validSet (Dep.From f) (Tab.Width t)))) = false) → (((bif (!(validTable t)) then true else (!(validSet (Dep.From f) (Tab.Width t)))) = false))), (((bif (!(validTable t)) then true else (!(validSet (Dep.From f) (Tab.Width t)))) = false) → (((bif (!(validTable t)) then true else (!(validSet (Dep.From f) (Tab.Width t)))) = false))), (((bif (!(validTable t)) then true else (!(validSet (Dep.From f) (Tab.Width t)))) = false) → (((bif (!(validTable t)) then true else (!(validSet (Dep.From f) (Tab.Width t)))) = false))), (((bif (!(validTable t)) then true else (!(validSet (Dep.From f) (Tab.Width t)))) = false) → (((bif (!(validTable t)) then true else (!(validSet (Dep.From f) (Tab.Width t)))) = false))), (((bif (!(validTable t)) then true else (!(validSet (Dep.From f) (Tab.Width t)))) = false) → (True)), (((bif (!(validTable t)) then true else (!(validSet (Dep.From f) (Tab.Width t)))) = false) → (((bif (!(validTable t)) then true else (!(validSet (Dep.From f) (Tab.Width t)))) = false))), (((bif (!(validTable t)) then true else (!(validSet (Dep.From f) (Tab.Width t)))) = false) → (((bif (!(validTable t)) then true else (!(validSet (Dep.From f) (Tab.Width t)))) = false)))] ?_ ?_))
 ·
  refine ⟨?_, ?_, ?_, ?_, ?_, ?_, ?_, ?_, ?_, ?_, ?_, ?_, ?_, ?_, ?_, trivial⟩
  ·
   trivial
  ·
   intro g1
   have g1p0 : (validTable t) = true := (Go.Am.not_neg g1)
   first | assumption | exact ⟨by assumption, by assumption⟩
  ·
   intro g2
   have g2p0 : (validTable t) = true := (Go.Am.not_neg g2)
   first | assumption | exact ⟨by assumption, by assumption⟩
  ·
   intro g3
   have g3p0 : (validTable t) = true := (Go.Am.not_neg g3)
   first | assumption | exact ⟨by assumption, by assumption⟩
  ·
   intro g4
   have g4p0 : (validTable t) = true := (Go.Am.not_neg g4)
   first | assumption | exact ⟨by assumption, by assumption⟩
  ·
   intro g5
   have g5p0 : (validTable t) = true := (Go.Am.not_neg g5)
   trivial
  ·
   intro g6
   have g6p0 : (validTable t) = true := (Go.Am.not_neg g6)
   first | assumption | exact ⟨by assumption, by assumption⟩
  ·
   intro g7
   have g7p0 : (validTable t) = true := (Go.Am.not_neg g7)
   first | assumption | exact ⟨by assumption, by assumption⟩
  ·
   intro g8
   have g8p0 : ((validTable t) = true) ∧ ((validSet (Dep.From f) (Tab.Width t)) = true) := (And.imp (fun h => (Go.Am.not_neg h)) (fun h => (Go.Am.not_neg h)) (Go.Am.or_neg g8))
   first | assumption | exact ⟨by assumption, by assumption⟩
  ·
   intro g9
   have g9p0 : ((validTable t) = true) ∧ ((validSet (Dep.From f) (Tab.Width t)) = true) := (And.imp (fun h => (Go.Am.not_neg h)) (fun h => (Go.Am.not_neg h)) (Go.Am.or_neg g9))
   first | assumption | exact ⟨by assumption, by assumption⟩
  ·
   intro g10
   have g10p0 : ((validTable t) = true) ∧ ((validSet (Dep.From f) (Tab.Width t)) = true) := (And.imp (fun h => (Go.Am.not_neg h)) (fun h => (Go.Am.not_neg h)) (Go.Am.or_neg g10))
   first | assumption | exact ⟨by assumption, by assumption⟩
  ·
   intro g11
   have g11p0 : ((validTable t) = true) ∧ ((validSet (Dep.From f) (Tab.Width t)) = true) := (And.imp (fun h => (Go.Am.not_neg h)) (fun h => (Go.Am.not_neg h)) (Go.Am.or_neg g11))
   first | assumption | exact ⟨by assumption, by assumption⟩
  ·
   intro g12
   have g12p0 : ((validTable t) = true) ∧ ((validSet (Dep.From f) (Tab.Width t)) = true) := (And.imp (fun h => (Go.Am.not_neg h)) (fun h => (Go.Am.not_neg h)) (Go.Am.or_neg g12))
   trivial
  ·
   intro g13
   have g13p0 : ((validTable t) = true) ∧ ((validSet (Dep.From f) (Tab.Width t)) = true) := (And.imp (fun h => (Go.Am.not_neg h)) (fun h => (Go.Am.not_neg h)) (Go.Am.or_neg g13))
   first | assumption | exact ⟨by assumption, by assumption⟩
  ·
   intro g14
   have g14p0 : ((validTable t) = true) ∧ ((validSet (Dep.From f) (Tab.Width t)) = true) := (And.imp (fun h => (Go.Am.not_neg h)) (fun h => (Go.Am.not_neg h)) (Go.Am.or_neg g14))
   first | assumption | exact ⟨by assumption, by assumption⟩
 refine AW.cd (bif (bif (!(validTable t)) then true else (!(validSet (Dep.From f) (Tab.Width t)))) then true else (!(validSet (Dep.To f) (Tab.Width t)))) ?_ ?_
 ·
  intro h15
  have h15q : (((validTable t) = false) ∨ ((validSet (Dep.From f) (Tab.Width t)) = false)) ∨ ((validSet (Dep.To f) (Tab.Width t)) = false) := (Or.imp (fun h => (Or.imp (fun h => (Go.Am.not_pos h)) (fun h => (Go.Am.not_pos h)) (Go.Am.or_pos h))) (fun h => (Go.Am.not_pos h)) (Go.Am.or_pos h15))
  have e16 := e0.trans (Go.Am.bif_t h15)
  refine AW.seq (AW.r1 hC [4] [] ⟨[(4, .bool false)], []⟩ ?_)
  exact AW.ret (AW.retE (β := Bool) (fun v => [⟨.bool, v⟩]) (fun v => []) (v := false) e16 (by kernel_rfl) rfl rfl)
 ·
  intro h17
  have h17q : (((validTable t) = true) ∧ ((validSet (Dep.From f) (Tab.Width t)) = true)) ∧ ((validSet (Dep.To f) (Tab.Width t)) = true) := (And.imp (fun h => (And.imp (fun h => (Go.Am.not_neg h)) (fun h => (Go.Am.not_neg h)) (Go.Am.or_neg h))) (fun h => (Go.Am.not_neg h)) (Go.Am.or_neg h17))
  have e18 := e0.trans (Go.Am.bif_f h17)
  refine AW.kp [2, 3] [8, 12] ⟨[(2, .ref 8 1 0), (3, .ref 12 1 0)], [(8, .box 1 [.int .i64 (Dep.From f), .int .i64 (Dep.To f)]), (12, .box 1 [.int .i64 (Tab.Width t), .data (.slice (.slice (.named 1))) ((Tab.Rows t) : List (List Val))])]⟩ ?_
  refine AW.skip (AW.seq (AW.seq (AW.r1 hC [2, 3, 5] [8, 12] ⟨[(2, .ref 8 1 0), (3, .ref 12 1 0), (5, .int .i64 0)], [(8, .box 1 [.int .i64 (Dep.From f), .int .i64 (Dep.To f)]), (12, .box 1 [.int .i64 (Tab.Width t), .data (.slice (.slice (.named 1))) ((Tab.Rows t) : List (List Val))])]⟩ ?_)))
  refine AW.cutQ (α := Unit) (fun x => ⟨[], []⟩) (fun x => (True) ∧ (sHoldsIn_l0 f t ((List.length (Tab.Rows t)) - 0 + 1) 0) = (.inl ())) ?_ ?_
  ·
   skip
   refine AW.block (AW.loop (α := Nat) (fun x => ⟨[(2, .ref 8 1 0), (3, .ref 12 1 0), (5, .int .i64 ((x : Nat) : Int))], [(8, .box 1 [.int .i64 (Dep.From f), .int .i64 (Dep.To f)]), (12, .box 1 [.int .i64 (Tab.Width t), .data (.slice (.slice (.named 1))) ((Tab.Rows t) : List (List Val))])]⟩) (fun x => (True) ∧ ∃ k, (List.length (Tab.Rows t)) - x < k ∧ (sHoldsIn_l0 f t ((List.length (Tab.Rows t)) - 0 + 1) 0) = sHoldsIn_l0 f t k x) (fun x => (List.length (Tab.Rows t)) - x) 0 (by kernel_rfl) ⟨?_, _, Nat.lt_succ_self _, rfl⟩ ?_)
   ·
    show True
    first | exact trivial | (refine ⟨?_, ?_⟩ <;> first | omega | simp) | omega | simp
   ·
    intro i hR
    obtain ⟨hI0, k168, hk166, e167⟩ := hR
    replace hI0 : True := hI0
    replace hk166 : (List.length (Tab.Rows t)) - i < k168 := hk166
    obtain ⟨k168q, rfl⟩ : ∃ k, k168 = k + 1 := ⟨k168 - 1, by omega⟩
    refine AW.seq (AW.seq (AW.r1 hC [2, 3, 5, 30] [8, 12] ⟨[(2, .ref 8 1 0), (3, .ref 12 1 0), (5, .int .i64 ((i : Nat) : Int)), (30, .bool (decide (((i : Nat) : Int) < ((List.length (Tab.Rows t) : Nat) : Int))))], [(8, .box 1 [.int .i64 (Dep.From f), .int .i64 (Dep.To f)]), (12, .box 1 [.int .i64 (Tab.Width t), .data (.slice (.slice (.named 1))) ((Tab.Rows t) : List (List Val))])]⟩ ?_))
    refine AW.cd (decide (((i : Nat) : Int) < ((List.length (Tab.Rows t) : Nat) : Int))) ?_ ?_
    ·
     intro h169
     have h169q : ((i : Nat) : Int) < ((List.length (Tab.Rows t) : Nat) : Int) := (of_decide_eq_true h169)
     have e170 := e167.trans (Go.Am.bif_t h169)
     refine AW.kp [2, 3, 5] [8, 12] ⟨[(2, .ref 8 1 0), (3, .ref 12 1 0), (5, .int .i64 ((i : Nat) : Int))], [(8, .box 1 [.int .i64 (Dep.From f), .int .i64 (Dep.To f)]), (12, .box 1 [.int .i64 (Tab.Width t), .data (.slice (.slice (.named 1))) ((Tab.Rows t) : List (List Val))])]⟩ ?_
     refine AW.skip (AW.seq (AW.block (AW.seq (AW.r1 hC [2, 3, 5, 6] [8, 12] ⟨[(2, .ref 8 1 0), (3, .ref 12 1 0), (5, .int .i64 ((i : Nat) : Int)), (6, .int .i64 0)], [(8, .box 1 [.int .i64 (Dep.From f), .int .i64 (Dep.To f)]), (12, .box 1 [.int .i64 (Tab.Width t), .data (.slice (.slice (.named 1))) ((Tab.Rows t) : List (List Val))])]⟩ ?_))))
     refine AW.cutQ (α := Unit) (fun x => ⟨[(2, .ref 8 1 0), (3, .ref 12 1 0), (5, .int .i64 ((i : Nat) : Int))], [(8, .box 1 [.int .i64 (Dep.From f), .int .i64 (Dep.To f)]), (12, .box 1 [.int .i64 (Tab.Width t), .data (.slice (.slice (.named 1))) ((Tab.Rows t) : List (List Val))])]⟩) (fun x => (True) ∧ (sHoldsIn_l1 f t i (i - 0 + 1) 0) = (.inl ())) ?_ ?_
     ·
      skip
      refine AW.block (AW.loop (α := Nat) (fun x => ⟨[(2, .ref 8 1 0), (3, .ref 12 1 0), (5, .int .i64 ((i : Nat) : Int)), (6, .int .i64 ((x : Nat) : Int))], [(8, .box 1 [.int .i64 (Dep.From f), .int .i64 (Dep.To f)]), (12, .box 1 [.int .i64 (Tab.Width t), .data (.slice (.slice (.named 1))) ((Tab.Rows t) : List (List Val))])]⟩) (fun x => (True) ∧ ∃ k, i - x < k ∧ (sHoldsIn_l1 f t i (i - 0 + 1) 0) = sHoldsIn_l1 f t i k x) (fun x => i - x) 0 (by kernel_rfl) ⟨?_, _, Nat.lt_succ_self _, rfl⟩ ?_)
      ·
       show True
       first | exact trivial | (refine ⟨?_, ?_⟩ <;> first | omega | simp) | omega | simp
      ·
       intro k1 hR
       obtain ⟨hI1, k203, hk201, e202⟩ := hR
       replace hI1 : True := hI1
       replace hk201 : i - k1 < k203 := hk201
       obtain ⟨k203q, rfl⟩ : ∃ k, k203 = k + 1 := ⟨k203 - 1, by omega⟩
       refine AW.seq (AW.seq (AW.r1 hC [2, 3, 5, 6, 35] [8, 12] ⟨[(2, .ref 8 1 0), (3, .ref 12 1 0), (5, .int .i64 ((i : Nat) : Int)), (6, .int .i64 ((k1 : Nat) : Int)), (35, .bool (decide (((k1 : Nat) : Int) < ((i : Nat) : Int))))], [(8, .box 1 [.int .i64 (Dep.From f), .int .i64 (Dep.To f)]), (12, .box 1 [.int .i64 (Tab.Width t), .data (.slice (.slice (.named 1))) ((Tab.Rows t) : List (List Val))])]⟩ ?_))
       refine AW.cd (decide (((k1 : Nat) : Int) < ((i : Nat) : Int))) ?_ ?_
       ·
        intro h204
        have h204q : ((k1 : Nat) : Int) < ((i : Nat) : Int) := (of_decide_eq_true h204)
        have e205 := e202.trans (Go.Am.bif_t h204)
        refine AW.kp [2, 3, 5, 6] [8, 12] ⟨[(2, .ref 8 1 0), (3, .ref 12 1 0), (5, .int .i64 ((i : Nat) : Int)), (6, .int .i64 ((k1 : Nat) : Int))], [(8, .box 1 [.int .i64 (Dep.From f), .int .i64 (Dep.To f)]), (12, .box 1 [.int .i64 (Tab.Width t), .data (.slice (.slice (.named 1))) ((Tab.Rows t) : List (List Val))])]⟩ ?_
        refine AW.skip (AW.seq (AW.block (AW.seq (AW.d0 hC hM [2, 3, 5, 6, 66] [8, 12] ⟨[(2, .ref 8 1 0), (3, .ref 12 1 0), (5, .int .i64 ((i : Nat) : Int)), (6, .int .i64 ((k1 : Nat) : Int)), (66, .bool (bif (agree (List.getD (Tab.Rows t) i []) (List.getD (Tab.Rows t) k1 []) (Dep.From f)) then (!(agree (List.getD (Tab.Rows t) i []) (List.getD (Tab.Rows t) k1 []) (Dep.To f))) else false))], [(8, .box 1 [.int .i64 (Dep.From f), .int .i64 (Dep.To f)]), (12, .box 1 [.int .i64 (Tab.Width t), .data (.slice (.slice (.named 1))) ((Tab.Rows t) : List (List Val))])]⟩ [(0 ≤ ((i : Nat) : Int) ∧ ((i : Nat) : Int) < ((List.length (Tab.Rows t) : Nat) : Int)), (0 ≤ ((k1 : Nat) : Int) ∧ ((k1 : Nat) : Int) < ((List.length (Tab.Rows t) : Nat) : Int)), ((0 ≤ (Dep.From f)) ∧ (List.getD (Tab.Rows t) i []).length ≤ 6 ∧ (List.getD (Tab.Rows t) k1 []).length = (List.getD (Tab.Rows t) i []).length), (((agree (List.getD (Tab.Rows t) i []) (List.getD (Tab.Rows t) k1 []) (Dep.From f)) = true) → (((agree (List.getD (Tab.Rows t) i []) (List.getD (Tab.Rows t) k1 []) (Dep.From f)) = true))), (((agree (List.getD (Tab.Rows t) i []) (List.getD (Tab.Rows t) k1 []) (Dep.From f)) = true) → (((agree (List.getD (Tab.Rows t) i []) (List.getD (Tab.Rows t) k1 []) (Dep.From f)) = true))), (((agree (List.getD (Tab.Rows t) i []) (List.getD (Tab.Rows t) k1 []) (Dep.From f)) = true) → (((agree (List.getD (Tab.Rows t) i []) (List.getD (Tab.Rows t) k1 []) (Dep.From f)) = true))), (((agree (List.getD (Tab.Rows t) i []) (List.getD (Tab.Rows t) k1 []) (Dep.From f)) = true) → (0 ≤ ((i : Nat) : Int) ∧ ((i : Nat) : Int) < ((List.length (Tab.Rows t) : Nat) : Int))), (((agree (List.getD (Tab.Rows t) i []) (List.getD (Tab.Rows t) k1 []) (Dep.From f)) = true) → (((agree (List.getD (Tab.Rows t) i []) (List.getD (Tab.Rows t) k1 []) (Dep.From f)) = true))), (((agree (List.getD (Tab.Rows t) i []) (List.getD (Tab.Rows t) k1 []) (Dep.From f)) = true) → (((agree (List.getD (Tab.Rows t) i []) (List.getD (Tab.Rows t) k1 []) (Dep.From f)) = true))), (((agree (List.getD (Tab.Rows t) i []) (List.getD (Tab.Rows t) k1 []) (Dep.From f)) = true) → (((agree (List.getD (Tab.Rows t) i []) (List.getD (Tab.Rows t) k1 []) (Dep.From f)) = true))), (((agree (List.getD (Tab.Rows t) i []) (List.getD (Tab.Rows t) k1 []) (Dep.From f)) = true) → (((agree (List.getD (Tab.Rows t) i []) (List.getD (Tab.Rows t) k1 []) (Dep.From f)) = true))), (((agree (List.getD (Tab.Rows t) i []) (List.getD (Tab.Rows t) k1 []) (Dep.From f)) = true) → (0 ≤ ((k1 : Nat) : Int) ∧ ((k1 : Nat) : Int) < ((List.length (Tab.Rows t) : Nat) : Int))), (((agree (List.getD (Tab.Rows t) i []) (List.getD (Tab.Rows t) k1 []) (Dep.From f)) = true) → (((agree (List.getD (Tab.Rows t) i []) (List.getD (Tab.Rows t) k1 []) (Dep.From f)) = true))), (((agree (List.getD (Tab.Rows t) i []) (List.getD (Tab.Rows t) k1 []) (Dep.From f)) = true) → (((agree (List.getD (Tab.Rows t) i []) (List.getD (Tab.Rows t) k1 []) (Dep.From f)) = true))), (((agree (List.getD (Tab.Rows t) i []) (List.getD (Tab.Rows t) k1 []) (Dep.From f)) = true) → (((agree (List.getD (Tab.Rows t) i []) (List.getD (Tab.Rows t) k1 []) (Dep.From f)) = true))), (((agree (List.getD (Tab.Rows t) i []) (List.getD (Tab.Rows t) k1 []) (Dep.From f)) = true) → (((agree (List.getD (Tab.Rows t) i []) (List.getD (Tab.Rows t) k1 []) (Dep.From f)) = true))), (((agree (List.getD (Tab.Rows t) i []) (List.getD (Tab.Rows t) k1 []) (Dep.From f)) = true) → (((agree (List.getD (Tab.Rows t) i []) (List.getD (Tab.Rows t) k1 []) (Dep.From f)) = true))), (((agree (List.getD (Tab.Rows t) i []) (List.getD (Tab.Rows t) k1 []) (Dep.From f)) = true) → ((0 ≤ (Dep.To f)) ∧ (List.getD (Tab.Rows t) i []).length ≤ 6 ∧ (List.getD (Tab.Rows t) k1 []).length = (List.getD (Tab.Rows t) i []).length)), (((agree (List.getD (Tab.Rows t) i []) (List.getD (Tab.Rows t) k1 []) (Dep.From f)) = true) → (((agree (List.getD (Tab.Rows t) i []) (List.getD (Tab.Rows t) k1 []) (Dep.From f)) = true))), (((agree (List.getD (Tab.Rows t) i []) (List.getD (Tab.Rows t) k1 []) (Dep.From f)) = true) → (((agree (List.getD (Tab.Rows t) i []) (List.getD (Tab.Rows t) k1 []) (Dep.From f)) = true)))] ?_ ?_))))
        ·
         refine ⟨?_, ?_, ?_, ?_, ?_, ?_, ?_, ?_, ?_, ?_, ?_, ?_, ?_, ?_, ?_, ?_, ?_, ?_, ?_, ?_, trivial⟩
         ·
          first | omega | (dsimp only; omega) | (simp only [lens] at *; omega)
         ·
          first | omega | (dsimp only; omega) | (simp only [lens] at *; omega)
         ·
          exact (okT h17q (by omega) (by omega)).1
         ·
          intro g206
          have g206p0 : (agree (List.getD (Tab.Rows t) i []) (List.getD (Tab.Rows t) k1 []) (Dep.From f)) = true := g206
          first | assumption | exact ⟨by assumption, by assumption⟩
         ·
          intro g207
          have g207p0 : (agree (List.getD (Tab.Rows t) i []) (List.getD (Tab.Rows t) k1 []) (Dep.From f)) = true := g207
          first | assumption | exact ⟨by assumption, by assumption⟩
         ·
          intro g208
          have g208p0 : (agree (List.getD (Tab.Rows t) i []) (List.getD (Tab.Rows t) k1 []) (Dep.From f)) = true := g208
          first | assumption | exact ⟨by assumption, by assumption⟩
         ·
          intro g209
          have g209p0 : (agree (List.getD (Tab.Rows t) i []) (List.getD (Tab.Rows t) k1 []) (Dep.From f)) = true := g209
          first | omega | (dsimp only; omega) | (simp only [lens] at *; omega)
         ·
          intro g210
          have g210p0 : (agree (List.getD (Tab.Rows t) i []) (List.getD (Tab.Rows t) k1 []) (Dep.From f)) = true := g210
          first | assumption | exact ⟨by assumption, by assumption⟩
         ·
          intro g211
          have g211p0 : (agree (List.getD (Tab.Rows t) i []) (List.getD (Tab.Rows t) k1 []) (Dep.From f)) = true := g211
          first | assumption | exact ⟨by assumption, by assumption⟩
         ·
          intro g212
          have g212p0 : (agree (List.getD (Tab.Rows t) i []) (List.getD (Tab.Rows t) k1 []) (Dep.From f)) = true := g212
          first | assumption | exact ⟨by assumption, by assumption⟩
         ·
          intro g213
          have g213p0 : (agree (List.getD (Tab.Rows t) i []) (List.getD (Tab.Rows t) k1 []) (Dep.From f)) = true := g213
          first | assumption | exact ⟨by assumption, by assumption⟩
         ·
          intro g214
          have g214p0 : (agree (List.getD (Tab.Rows t) i []) (List.getD (Tab.Rows t) k1 []) (Dep.From f)) = true := g214
          first | omega | (dsimp only; omega) | (simp only [lens] at *; omega)
         ·
          intro g215
          have g215p0 : (agree (List.getD (Tab.Rows t) i []) (List.getD (Tab.Rows t) k1 []) (Dep.From f)) = true := g215
          first | assumption | exact ⟨by assumption, by assumption⟩
         ·
          intro g216
          have g216p0 : (agree (List.getD (Tab.Rows t) i []) (List.getD (Tab.Rows t) k1 []) (Dep.From f)) = true := g216
          first | assumption | exact ⟨by assumption, by assumption⟩
         ·
          intro g217
          have g217p0 : (agree (List.getD (Tab.Rows t) i []) (List.getD (Tab.Rows t) k1 []) (Dep.From f)) = true := g217
          first | assumption | exact ⟨by assumption, by assumption⟩
         ·
          intro g218
          have g218p0 : (agree (List.getD (Tab.Rows t) i []) (List.getD (Tab.Rows t) k1 []) (Dep.From f)) = true := g218
          first | assumption | exact ⟨by assumption, by assumption⟩
         ·
          intro g219
          have g219p0 : (agree (List.getD (Tab.Rows t) i []) (List.getD (Tab.Rows t) k1 []) (Dep.From f)) = true := g219
          first | assumption | exact ⟨by assumption, by assumption⟩
         ·
          intro g220
          have g220p0 : (agree (List.getD (Tab.Rows t) i []) (List.getD (Tab.Rows t) k1 []) (Dep.From f)) = true := g220
          exact (okT h17q (by omega) (by omega)).2
         ·
          intro g221
          have g221p0 : (agree (List.getD (Tab.Rows t) i []) (List.getD (Tab.Rows t) k1 []) (Dep.From f)) = true := g221
          first | assumption | exact ⟨by assumption, by assumption⟩
         ·
          intro g222
          have g222p0 : (agree (List.getD (Tab.Rows t) i []) (List.getD (Tab.Rows t) k1 []) (Dep.From f)) = true := g222
          first | assumption | exact ⟨by assumption, by assumption⟩
        refine AW.cd (bif (agree (List.getD (Tab.Rows t) i []) (List.getD (Tab.Rows t) k1 []) (Dep.From f)) then (!(agree (List.getD (Tab.Rows t) i []) (List.getD (Tab.Rows t) k1 []) (Dep.To f))) else false) ?_ ?_
        ·
         intro h223
         have h223q : ((agree (List.getD (Tab.Rows t) i []) (List.getD (Tab.Rows t) k1 []) (Dep.From f)) = true) ∧ ((agree (List.getD (Tab.Rows t) i []) (List.getD (Tab.Rows t) k1 []) (Dep.To f)) = false) := (And.imp (fun h => h) (fun h => (Go.Am.not_pos h)) (Go.Am.and_pos h223))
         have e224 := e205.trans (Go.Am.bif_t h223)
         refine AW.seq (AW.r1 hC [4] [] ⟨[(4, .bool false)], []⟩ ?_)
         refine AW.ret ?_
         have e225 := e170.trans (Go.Am.elim_r e224)
         have e226 := e18.trans (Go.Am.elim_r e225)
         exact AW.retE (β := Bool) (fun v => [⟨.bool, v⟩]) (fun v => []) (v := false) e226 (by kernel_rfl) rfl rfl
        ·
         intro h227
         have h227q : ((agree (List.getD (Tab.Rows t) i []) (List.getD (Tab.Rows t) k1 []) (Dep.From f)) = false) ∨ ((agree (List.getD (Tab.Rows t) i []) (List.getD (Tab.Rows t) k1 []) (Dep.To f)) = true) := (Or.imp (fun h => h) (fun h => (Go.Am.not_neg h)) (Go.Am.and_neg h227))
         have e228 := e205.trans (Go.Am.bif_f h227)
         refine AW.kp [2, 3, 5, 6] [8, 12] ⟨[(2, .ref 8 1 0), (3, .ref 12 1 0), (5, .int .i64 ((i : Nat) : Int)), (6, .int .i64 ((k1 : Nat) : Int))], [(8, .box 1 [.int .i64 (Dep.From f), .int .i64 (Dep.To f)]), (12, .box 1 [.int .i64 (Tab.Width t), .data (.slice (.slice (.named 1))) ((Tab.Rows t) : List (List Val))])]⟩ ?_
         refine AW.skip (AW.r0 hC [2, 3, 5, 6] [8, 12] ⟨[(2, .ref 8 1 0), (3, .ref 12 1 0), (5, .int .i64 ((i : Nat) : Int)), (6, .int .i64 ((k1 + 1 : Nat) : Int))], [(8, .box 1 [.int .i64 (Dep.From f), .int .i64 (Dep.To f)]), (12, .box 1 [.int .i64 (Tab.Width t), .data (.slice (.slice (.named 1))) ((Tab.Rows t) : List (List Val))])]⟩ [(-9223372036854775808 ≤ ((k1 + 1 : Nat) : Int) ∧ ((k1 + 1 : Nat) : Int) ≤ 9223372036854775807)] ?_ ?_)
         ·
          refine ⟨?_, trivial⟩
          ·
           first | omega | (dsimp only; omega) | (simp only [lens] at *; omega)
         refine AW.back (x := k1) (k1 + 1) (by kernel_rfl) ⟨?_, k203q, ?_, e228⟩ ?_
         ·
          show True
          first | assumption | exact trivial | (refine ⟨?_, ?_⟩ <;> first | omega | (simp only [lens] at *; omega)) | omega | (simp only [lens] at *; omega)
         ·
          show i - (k1 + 1) < k203q
          first | omega | (simp only [lens]; omega)
         ·
          show i - (k1 + 1) < i - k1
          first | omega | (simp only [lens]; omega)
       ·
        intro h229
        have h229q : ¬ (((k1 : Nat) : Int) < ((i : Nat) : Int)) := (of_decide_eq_false h229)
        have e230 := e202.trans (Go.Am.bif_f h229)
        refine AW.kp [2, 3, 5] [8, 12] ⟨[(2, .ref 8 1 0), (3, .ref 12 1 0), (5, .int .i64 ((i : Nat) : Int))], [(8, .box 1 [.int .i64 (Dep.From f), .int .i64 (Dep.To f)]), (12, .box 1 [.int .i64 (Tab.Width t), .data (.slice (.slice (.named 1))) ((Tab.Rows t) : List (List Val))])]⟩ ?_
        refine AW.exit ?_
        refine AW.meet () (by kernel_rfl) ⟨?_, e230⟩
        show True
        first | assumption | exact trivial | omega
     ·
      intro x hR
      obtain ⟨hJ1, e231⟩ := hR
      replace hJ1 : True := hJ1
      have e232 := e170.trans (Go.Am.elim_l e231)
      refine AW.r0 hC [2, 3, 5] [8, 12] ⟨[(2, .ref 8 1 0), (3, .ref 12 1 0), (5, .int .i64 ((i + 1 : Nat) : Int))], [(8, .box 1 [.int .i64 (Dep.From f), .int .i64 (Dep.To f)]), (12, .box 1 [.int .i64 (Tab.Width t), .data (.slice (.slice (.named 1))) ((Tab.Rows t) : List (List Val))])]⟩ [(-9223372036854775808 ≤ ((i + 1 : Nat) : Int) ∧ ((i + 1 : Nat) : Int) ≤ 9223372036854775807)] ?_ ?_
      ·
       refine ⟨?_, trivial⟩
       ·
        first | omega | (dsimp only; omega) | (simp only [lens] at *; omega)
      refine AW.back (x := i) (i + 1) (by kernel_rfl) ⟨?_, k168q, ?_, e232⟩ ?_
      ·
       show True
       first | assumption | exact trivial | (refine ⟨?_, ?_⟩ <;> first | omega | (simp only [lens] at *; omega)) | omega | (simp only [lens] at *; omega)
      ·
       show (List.length (Tab.Rows t)) - (i + 1) < k168q
       first | omega | (simp only [lens]; omega)
      ·
       show (List.length (Tab.Rows t)) - (i + 1) < (List.length (Tab.Rows t)) - i
       first | omega | (simp only [lens]; omega)
    ·
     intro h233
     have h233q : ¬ (((i : Nat) : Int) < ((List.length (Tab.Rows t) : Nat) : Int)) := (of_decide_eq_false h233)
     have e234 := e167.trans (Go.Am.bif_f h233)
     refine AW.kp [] [] ⟨[], []⟩ ?_
     refine AW.exit ?_
     refine AW.meet () (by kernel_rfl) ⟨?_, e234⟩
     show True
     first | assumption | exact trivial | omega
  ·
   intro x hR
   obtain ⟨hJ0, e235⟩ := hR
   replace hJ0 : True := hJ0
   have e236 := e18.trans (Go.Am.elim_l e235)
   refine AW.seq (AW.r1 hC [4] [] ⟨[(4, .bool true)], []⟩ ?_)
   exact AW.ret (AW.retE (β := Bool) (fun v => [⟨.bool, v⟩]) (fun v => []) (v := true) e236 (by kernel_rfl) rfl rfl)

end
end Go.Proofs.Ytbhgdogogpihhaa
