/-
  A part of the proof of this claim (Aw2): what functions of the program compute, and plain facts of that. No conditions.
-/
import Derived.Test.YtjcjpeckfikfkaaAw1
import Derived.Test.YtjcjpeckfikfkaaAnL
set_option linter.all false
namespace Go.Proofs.Ytjcjpeckfikfkaa
open Go Go.Am
noncomputable section

theorem inRange_iff {n l h : Int} : inRange n l h = true ↔ l ≤ n ∧ n ≤ h := by
 unfold inRange
 by_cases e : l ≤ n <;> simp [e]

theorem validWidth_iff {w : Int} : validWidth w = true ↔ 1 ≤ w ∧ w ≤ 6 := by
 unfold validWidth
 by_cases h : 1 ≤ w <;> simp [h]

def VV (v : Val) : Prop := if v.Null = true then v.N = 0 else -9999 ≤ v.N ∧ v.N ≤ 9999

theorem valValid_iff {v : Val} : valValid v = true ↔ VV v := by
 unfold valValid VV
 cases h : v.Null with
 | true => simp
 | false =>
  by_cases h1 : -9999 ≤ v.N <;> simp [h1]

theorem validValue_iff {v : Val} : validValue v = true ↔ VV v := by
 unfold validValue VV
 cases h : v.Null with
 | true =>
  cases e : inRange v.N (-9999) 9999 with
  | false =>
   simp
   intro h0
   have : inRange v.N (-9999) 9999 = true := inRange_iff.2 (by omega)
   rw [e] at this
   cases this
  | true => simp
 | false =>
  cases e : inRange v.N (-9999) 9999 with
  | false =>
   simp
   intro h0
   rcases Int.lt_or_le 9999 v.N with h | h
   ·
    exact h
   ·
    have : inRange v.N (-9999) 9999 = true := inRange_iff.2 (by omega)
    rw [e] at this
    cases this
  | true =>
   have := inRange_iff.1 e
   simp
   omega

structure VR (r : List Val) : Prop where
 n1 : 1 ≤ r.length
 n6 : r.length ≤ 6
 vs : ∀ i < r.length, VV (r.getD i Val.zero)

theorem ivalidRow_iff {r : List Val} : ivalidRow r = true ↔ VR r := by
 unfold ivalidRow
 cases h : validWidth ((r.length : Nat) : Int) with
 | false =>
  simp only [Bool.not_false, cond_true, Bool.false_eq_true, false_iff]
  rintro ⟨h1, h2, _⟩
  have : validWidth ((r.length : Nat) : Int) = true := validWidth_iff.2 ⟨by omega, by omega⟩
  rw [h] at this
  cases this
 | true =>
  have hw := validWidth_iff.1 h
  simp only [Bool.not_true, cond_false]
  rcases all_loop (ivalidRow_l0 r) r.length (fun i => !(valValid (List.getD r i Val.zero))) (fun k i => rfl) (r.length - 0 + 1) 0 (by omega) with ⟨h1, h2⟩ | ⟨h1, j, h2, h3, h4⟩
  ·
   rw [h1]
   simp only [Sum.elim_inl, true_iff]
   exact ⟨by omega, by omega, fun i hi => valValid_iff.1 (not_neg (h2 i (by omega) hi))⟩
  ·
   rw [h1]
   simp only [Sum.elim_inr, Bool.false_eq_true, false_iff]
   rintro ⟨_, _, hv⟩
   have := valValid_iff.2 (hv j h3)
   rw [this] at h4
   cases h4

theorem validRow_iff {r : List Val} : validRow r = true ↔ VR r := by
 unfold validRow
 rcases all_loop (validRow_l0 r) r.length (fun i => !(validValue (List.getD r i Val.zero))) (fun k i => rfl) (r.length - 0 + 1) 0 (by omega) with ⟨h1, h2⟩ | ⟨h1, j, h2, h3, h4⟩
 ·
  rw [h1]
  simp only [Sum.elim_inl]
  rw [inRange_iff]
  constructor
  ·
   intro hn
   exact ⟨by omega, by omega, fun i hi => validValue_iff.1 (not_neg (h2 i (by omega) hi))⟩
  ·
   rintro ⟨_, _, _⟩
   omega
 ·
  rw [h1]
  simp only [Sum.elim_inr, Bool.false_eq_true, false_iff]
  rintro ⟨_, _, hv⟩
  have := validValue_iff.2 (hv j h3)
  rw [this] at h4
  cases h4

theorem Val.ext' {a b : Val} (h1 : a.Null = b.Null) (h2 : a.N = b.N) : a = b := by
 cases a; cases b; cases h1; cases h2; rfl

theorem cmpV {v w : Val} (hv : VV v) (hw : VV w) : valCompare v w = compareValues v w := by
 unfold VV at hv hw
 unfold valCompare compareValues compareInt isNaN
 cases h1 : v.Null <;> cases h2 : w.Null <;> rw [h1] at hv <;> rw [h2] at hw <;> simp at hv hw ⊢
 ·
  by_cases e : v.N = w.N
  ·
   simp [e]
  ·
   have e' : (v.N == w.N) = false := beq_false_of_ne e
   by_cases e2 : v.N < w.N
   ·
    simp [e', e2]
   ·
    have : w.N < v.N := by omega
    simp [e', e2, this]
 ·
  rw [hv, hw]; simp

theorem cmpRows {a b : List Val} (ha : VR a) (hb : VR b) (hl : b.length = a.length) : icompareRows a b = compareRows a b := by
 unfold icompareRows compareRows icompareRows_c0
 have key : ∀ k i, a.length - i < k → Sum.elim (fun _ => (bif decide (((List.length a : Nat) : Int) < ((List.length b : Nat) : Int)) then (-1 : Int) else 0)) (fun r => r) (icompareRows_l0 a b k i) = Sum.elim (fun _ => (((List.length a : Nat) : Int) - ((List.length b : Nat) : Int))) (fun r => r) (compareRows_l0 a b k i) := by
  intro k
  induction k with
  | zero => intro i h; omega
  | succ k ih =>
   intro i hk
   unfold icompareRows_l0 compareRows_l0
   rw [hl]
   by_cases h : i < a.length
   ·
    rw [lt_dec h, cond_true, cond_true, cond_true, show decide (((a.length : Nat) : Int) ≤ ((i : Nat) : Int)) = false by simp; exact h, cond_false, cmpV (ha.vs i h) (hb.vs i (by omega))]
    cases compareValues (a.getD i Val.zero) (b.getD i Val.zero) != 0 with
    | true => rfl
    | false =>
     rw [cond_false, cond_false]
     have ih := ih (i + 1) (by omega)
     rw [hl] at ih
     exact ih
   ·
    rw [ge_dec h]
    simp
 have := key (a.length - 0 + 1) 0 (by omega)
 exact this

def ValidTable_l0 (t : Tab) : Nat → Nat → Unit ⊕ Bool
 | 0, v18 => .inl ()
 | k + 1, v18 => (bif (decide (((v18 : Nat) : Int) < ((List.length (Tab.Rows t) : Nat) : Int))) then (bif (bif (((List.length (List.getD (Tab.Rows t) v18 []) : Nat) : Int) != (Tab.Width t)) then true else (!(ivalidRow (List.getD (Tab.Rows t) v18 [])))) then (.inr false) else (bif (bif (decide (0 < ((v18 : Nat) : Int))) then (decide (0 < (icompareRows (List.getD (Tab.Rows t) (Int.toNat (((v18 : Nat) : Int) - 1)) []) (List.getD (Tab.Rows t) v18 [])))) else false) then (.inr false) else (ValidTable_l0 t k (v18 + 1)))) else (.inl ()))

def ValidTable (t : Tab) : Bool := (bif (bif (!(validWidth (Tab.Width t))) then true else (decide (400 < ((List.length (Tab.Rows t) : Nat) : Int)))) then false else (Sum.elim (fun _ => true) (fun r => r) (ValidTable_l0 t ((List.length (Tab.Rows t)) - 0 + 1) 0)))

def ValidTable_sp : FnSpec := mkSpec [.val (.named 2)] [.val .bool] (fun (t : Tab) => True) (fun (t : Tab) => [⟨.bool, (ValidTable t)⟩])

theorem ValidTable_ok : FnOK Try.prog 19 ValidTable_sp := by
 have hC : CtxOK Try.prog (mkCtx tyL [(60, validWidth_sp), (61, ivalidRow_sp), (68, icompareRows_sp)]) := CtxOK.cons validWidth_ok (CtxOK.cons ivalidRow_ok (CtxOK.cons icompareRows_ok (CtxOK.nil tyOK)))
 refine FnOK.of_body Try.func19 (by kernel_rfl) rfl (C := (mkCtx tyL [(60, validWidth_sp), (61, ivalidRow_sp), (68, icompareRows_sp)])) hC.ty (by kernel_rfl) ?_
 intro (t : Tab) hwf hpre E
 have hpre : True := hpre
 have hw_t : Wf ⟨(.named 2), (t : Tab)⟩ := hwf _ (List.Mem.head _)
 have hr_t_Width : -9223372036854775808 ≤ Tab.Width t ∧ Tab.Width t ≤ 9223372036854775807 := (hw_t.field (tv := ⟨(.int .i64), Tab.Width t⟩) (List.Mem.head _)).int_inv
 have hl_t_Rows : ((List.length (Tab.Rows t) : Nat) : Int) ≤ 9223372036854775807 := (hw_t.field (tv := ⟨(.slice (.slice (.named 1))), Tab.Rows t⟩) (List.Mem.tail _ (List.Mem.head _))).len
 have e0 : ValidTable t = ValidTable t := rfl
 refine AW.seq (AW.r1 hC [1] [4] ⟨[(1, .ref 4 1 0)], [(4, .box 1 [.int .i64 (Tab.Width t), .data (.slice (.slice (.named 1))) ((Tab.Rows t) : List (List Val))])]⟩ ?_)
 refine AW.seq (AW.seq (AW.r0 hC [1, 14] [4] ⟨[(1, .ref 4 1 0), (14, .bool (bif (!(validWidth (Tab.Width t))) then true else (decide (400 < ((List.length (Tab.Rows t) : Nat) : Int)))))], [(4, .box 1 [.int .i64 (Tab.Width t), .data (.slice (.slice (.named 1))) ((Tab.Rows t) : List (List Val))])]⟩ [(True), (((!(validWidth (Tab.Width t))) = false) → (((!(validWidth (Tab.Width t))) = false))), (((!(validWidth (Tab.Width t))) = false) → (((!(validWidth (Tab.Width t))) = false))), (((!(validWidth (Tab.Width t))) = false) → (((!(validWidth (Tab.Width t))) = false))), (((!(validWidth (Tab.Width t))) = false) → (((!(validWidth (Tab.Width t))) = false)))] ?_ ?_))
 ·
  refine ⟨?_, ?_, ?_, ?_, ?_, trivial⟩
  ·
   trivial
  ·
   intro g1
   have g1p0 : (validWidth (Tab.Width t)) = true := (Go.Am.not_neg g1)
   assumption
  ·
   intro g2
   have g2p0 : (validWidth (Tab.Width t)) = true := (Go.Am.not_neg g2)
   assumption
  ·
   intro g3
   have g3p0 : (validWidth (Tab.Width t)) = true := (Go.Am.not_neg g3)
   assumption
  ·
   intro g4
   have g4p0 : (validWidth (Tab.Width t)) = true := (Go.Am.not_neg g4)
   assumption
 refine AW.cd (bif (!(validWidth (Tab.Width t))) then true else (decide (400 < ((List.length (Tab.Rows t) : Nat) : Int)))) ?_ ?_
 ·
  intro h5
  have h5q : ((validWidth (Tab.Width t)) = false) ∨ (400 < ((List.length (Tab.Rows t) : Nat) : Int)) := (Or.imp (fun h => (Go.Am.not_pos h)) (fun h => (of_decide_eq_true h)) (Go.Am.or_pos h5))
  have e6 := e0.trans (Go.Am.bif_t h5)
  refine AW.seq (AW.r1 hC [2] [] ⟨[(2, .bool false)], []⟩ ?_)
  exact AW.ret (AW.retE (β := Bool) (fun v => [⟨.bool, v⟩]) (fun v => []) (v := false) e6 (by kernel_rfl) rfl rfl)
 ·
  intro h7
  have h7q : ((validWidth (Tab.Width t)) = true) ∧ (¬ (400 < ((List.length (Tab.Rows t) : Nat) : Int))) := (And.imp (fun h => (Go.Am.not_neg h)) (fun h => (of_decide_eq_false h)) (Go.Am.or_neg h7))
  have e8 := e0.trans (Go.Am.bif_f h7)
  refine AW.kp [1] [4] ⟨[(1, .ref 4 1 0)], [(4, .box 1 [.int .i64 (Tab.Width t), .data (.slice (.slice (.named 1))) ((Tab.Rows t) : List (List Val))])]⟩ ?_
  refine AW.skip (AW.seq (AW.seq (AW.r1 hC [1, 16, 17, 18] [4] ⟨[(1, .ref 4 1 0), (16, .data (.slice (.slice (.named 1))) ((Tab.Rows t) : List (List Val))), (17, .int .i64 ((List.length (Tab.Rows t) : Nat) : Int)), (18, .int .i64 0)], [(4, .box 1 [.int .i64 (Tab.Width t), .data (.slice (.slice (.named 1))) ((Tab.Rows t) : List (List Val))])]⟩ ?_)))
  refine AW.cutQ (α := Unit) (fun x => ⟨[], []⟩) (fun x => (True) ∧ (ValidTable_l0 t ((List.length (Tab.Rows t)) - 0 + 1) 0) = (.inl ())) ?_ ?_
  ·
   skip
   refine AW.block (AW.loop (α := Nat) (fun x => ⟨[(1, .ref 4 1 0), (16, .data (.slice (.slice (.named 1))) ((Tab.Rows t) : List (List Val))), (17, .int .i64 ((List.length (Tab.Rows t) : Nat) : Int)), (18, .int .i64 ((x : Nat) : Int))], [(4, .box 1 [.int .i64 (Tab.Width t), .data (.slice (.slice (.named 1))) ((Tab.Rows t) : List (List Val))])]⟩) (fun x => (True) ∧ ∃ k, (List.length (Tab.Rows t)) - x < k ∧ (ValidTable_l0 t ((List.length (Tab.Rows t)) - 0 + 1) 0) = ValidTable_l0 t k x) (fun x => (List.length (Tab.Rows t)) - x) 0 (by kernel_rfl) ⟨?_, _, Nat.lt_succ_self _, rfl⟩ ?_)
   ·
    show True
    exact trivial
   ·
    intro v18 hR
    obtain ⟨hI0, k53, hk51, e52⟩ := hR
    replace hI0 : True := hI0
    replace hk51 : (List.length (Tab.Rows t)) - v18 < k53 := hk51
    obtain ⟨k53q, rfl⟩ : ∃ k, k53 = k + 1 := ⟨k53 - 1, by omega⟩
    refine AW.seq (AW.r1 hC [1, 16, 17, 18, 19] [4] ⟨[(1, .ref 4 1 0), (16, .data (.slice (.slice (.named 1))) ((Tab.Rows t) : List (List Val))), (17, .int .i64 ((List.length (Tab.Rows t) : Nat) : Int)), (18, .int .i64 ((v18 : Nat) : Int)), (19, .bool (decide (((v18 : Nat) : Int) < ((List.length (Tab.Rows t) : Nat) : Int))))], [(4, .box 1 [.int .i64 (Tab.Width t), .data (.slice (.slice (.named 1))) ((Tab.Rows t) : List (List Val))])]⟩ ?_)
    refine AW.seq (AW.cd (decide (((v18 : Nat) : Int) < ((List.length (Tab.Rows t) : Nat) : Int))) ?_ ?_)
    ·
     intro h54
     have h54q : ((v18 : Nat) : Int) < ((List.length (Tab.Rows t) : Nat) : Int) := (of_decide_eq_true h54)
     have e55 := e52.trans (Go.Am.bif_t h54)
     refine AW.kp [1, 16, 17, 18] [4] ⟨[(1, .ref 4 1 0), (16, .data (.slice (.slice (.named 1))) ((Tab.Rows t) : List (List Val))), (17, .int .i64 ((List.length (Tab.Rows t) : Nat) : Int)), (18, .int .i64 ((v18 : Nat) : Int))], [(4, .box 1 [.int .i64 (Tab.Width t), .data (.slice (.slice (.named 1))) ((Tab.Rows t) : List (List Val))])]⟩ ?_
     refine AW.skip (AW.seq (AW.block (AW.seq (AW.r0 hC [1, 3, 4, 16, 17, 18] [4] ⟨[(1, .ref 4 1 0), (3, .int .i64 ((v18 : Nat) : Int)), (4, .data (.slice (.named 1)) ((List.getD (Tab.Rows t) v18 []) : List Val)), (16, .data (.slice (.slice (.named 1))) ((Tab.Rows t) : List (List Val))), (17, .int .i64 ((List.length (Tab.Rows t) : Nat) : Int)), (18, .int .i64 ((v18 : Nat) : Int))], [(4, .box 1 [.int .i64 (Tab.Width t), .data (.slice (.slice (.named 1))) ((Tab.Rows t) : List (List Val))])]⟩ [(0 ≤ ((v18 : Nat) : Int) ∧ ((v18 : Nat) : Int) < ((List.length (Tab.Rows t) : Nat) : Int))] ?_ ?_))))
     ·
      refine ⟨?_, trivial⟩
      ·
       omega
     refine AW.seq (AW.seq (AW.r0 hC [1, 3, 4, 16, 17, 18, 32] [4] ⟨[(1, .ref 4 1 0), (3, .int .i64 ((v18 : Nat) : Int)), (4, .data (.slice (.named 1)) ((List.getD (Tab.Rows t) v18 []) : List Val)), (16, .data (.slice (.slice (.named 1))) ((Tab.Rows t) : List (List Val))), (17, .int .i64 ((List.length (Tab.Rows t) : Nat) : Int)), (18, .int .i64 ((v18 : Nat) : Int)), (32, .bool (bif (((List.length (List.getD (Tab.Rows t) v18 []) : Nat) : Int) != (Tab.Width t)) then true else (!(ivalidRow (List.getD (Tab.Rows t) v18 [])))))], [(4, .box 1 [.int .i64 (Tab.Width t), .data (.slice (.slice (.named 1))) ((Tab.Rows t) : List (List Val))])]⟩ [(((((List.length (List.getD (Tab.Rows t) v18 []) : Nat) : Int) != (Tab.Width t)) = false) → (((((List.length (List.getD (Tab.Rows t) v18 []) : Nat) : Int) != (Tab.Width t)) = false))), (((((List.length (List.getD (Tab.Rows t) v18 []) : Nat) : Int) != (Tab.Width t)) = false) → (True)), (((((List.length (List.getD (Tab.Rows t) v18 []) : Nat) : Int) != (Tab.Width t)) = false) → (((((List.length (List.getD (Tab.Rows t) v18 []) : Nat) : Int) != (Tab.Width t)) = false))), (((((List.length (List.getD (Tab.Rows t) v18 []) : Nat) : Int) != (Tab.Width t)) = false) → (((((List.length (List.getD (Tab.Rows t) v18 []) : Nat) : Int) != (Tab.Width t)) = false)))] ?_ ?_))
     ·
      refine ⟨?_, ?_, ?_, ?_, trivial⟩
      ·
       intro g56
       have g56p0 : ((List.length (List.getD (Tab.Rows t) v18 []) : Nat) : Int) = (Tab.Width t) := (Go.Am.bne_neg g56)
       assumption
      ·
       intro g57
       have g57p0 : ((List.length (List.getD (Tab.Rows t) v18 []) : Nat) : Int) = (Tab.Width t) := (Go.Am.bne_neg g57)
       trivial
      ·
       intro g58
       have g58p0 : ((List.length (List.getD (Tab.Rows t) v18 []) : Nat) : Int) = (Tab.Width t) := (Go.Am.bne_neg g58)
       assumption
      ·
       intro g59
       have g59p0 : ((List.length (List.getD (Tab.Rows t) v18 []) : Nat) : Int) = (Tab.Width t) := (Go.Am.bne_neg g59)
       assumption
     refine AW.cd (bif (((List.length (List.getD (Tab.Rows t) v18 []) : Nat) : Int) != (Tab.Width t)) then true else (!(ivalidRow (List.getD (Tab.Rows t) v18 [])))) ?_ ?_
     ·
      intro h60
      have h60q : (((List.length (List.getD (Tab.Rows t) v18 []) : Nat) : Int) ≠ (Tab.Width t)) ∨ ((ivalidRow (List.getD (Tab.Rows t) v18 [])) = false) := (Or.imp (fun h => (Go.Am.bne_pos h)) (fun h => (Go.Am.not_pos h)) (Go.Am.or_pos h60))
      have e61 := e55.trans (Go.Am.bif_t h60)
      refine AW.seq (AW.r1 hC [2] [] ⟨[(2, .bool false)], []⟩ ?_)
      refine AW.ret ?_
      have e62 := e8.trans (Go.Am.elim_r e61)
      exact AW.retE (β := Bool) (fun v => [⟨.bool, v⟩]) (fun v => []) (v := false) e62 (by kernel_rfl) rfl rfl
     ·
      intro h63
      have h63q : (((List.length (List.getD (Tab.Rows t) v18 []) : Nat) : Int) = (Tab.Width t)) ∧ ((ivalidRow (List.getD (Tab.Rows t) v18 [])) = true) := (And.imp (fun h => (Go.Am.bne_neg h)) (fun h => (Go.Am.not_neg h)) (Go.Am.or_neg h63))
      have e64 := e55.trans (Go.Am.bif_f h63)
      refine AW.kp [1, 3, 4, 16, 17, 18] [4] ⟨[(1, .ref 4 1 0), (3, .int .i64 ((v18 : Nat) : Int)), (4, .data (.slice (.named 1)) ((List.getD (Tab.Rows t) v18 []) : List Val)), (16, .data (.slice (.slice (.named 1))) ((Tab.Rows t) : List (List Val))), (17, .int .i64 ((List.length (Tab.Rows t) : Nat) : Int)), (18, .int .i64 ((v18 : Nat) : Int))], [(4, .box 1 [.int .i64 (Tab.Width t), .data (.slice (.slice (.named 1))) ((Tab.Rows t) : List (List Val))])]⟩ ?_
      refine AW.skip (AW.seq (AW.r0 hC [1, 16, 17, 18, 45] [4] ⟨[(1, .ref 4 1 0), (16, .data (.slice (.slice (.named 1))) ((Tab.Rows t) : List (List Val))), (17, .int .i64 ((List.length (Tab.Rows t) : Nat) : Int)), (18, .int .i64 ((v18 : Nat) : Int)), (45, .bool (bif (decide (0 < ((v18 : Nat) : Int))) then (decide (0 < (icompareRows (List.getD (Tab.Rows t) (Int.toNat (((v18 : Nat) : Int) - 1)) []) (List.getD (Tab.Rows t) v18 [])))) else false))], [(4, .box 1 [.int .i64 (Tab.Width t), .data (.slice (.slice (.named 1))) ((Tab.Rows t) : List (List Val))])]⟩ [(((decide (0 < ((v18 : Nat) : Int))) = true) → (((decide (0 < ((v18 : Nat) : Int))) = true))), (((decide (0 < ((v18 : Nat) : Int))) = true) → (((decide (0 < ((v18 : Nat) : Int))) = true))), (((decide (0 < ((v18 : Nat) : Int))) = true) → (-9223372036854775808 ≤ (((v18 : Nat) : Int) - 1) ∧ (((v18 : Nat) : Int) - 1) ≤ 9223372036854775807)), (((decide (0 < ((v18 : Nat) : Int))) = true) → (((decide (0 < ((v18 : Nat) : Int))) = true))), (((decide (0 < ((v18 : Nat) : Int))) = true) → (((decide (0 < ((v18 : Nat) : Int))) = true))), (((decide (0 < ((v18 : Nat) : Int))) = true) → (0 ≤ (((v18 : Nat) : Int) - 1) ∧ (((v18 : Nat) : Int) - 1) < ((List.length (Tab.Rows t) : Nat) : Int))), (((decide (0 < ((v18 : Nat) : Int))) = true) → (((decide (0 < ((v18 : Nat) : Int))) = true))), (((decide (0 < ((v18 : Nat) : Int))) = true) → (((decide (0 < ((v18 : Nat) : Int))) = true))), (((decide (0 < ((v18 : Nat) : Int))) = true) → (((decide (0 < ((v18 : Nat) : Int))) = true))), (((decide (0 < ((v18 : Nat) : Int))) = true) → (True)), (((decide (0 < ((v18 : Nat) : Int))) = true) → (((decide (0 < ((v18 : Nat) : Int))) = true))), (((decide (0 < ((v18 : Nat) : Int))) = true) → (((decide (0 < ((v18 : Nat) : Int))) = true)))] ?_ ?_))
      ·
       refine ⟨?_, ?_, ?_, ?_, ?_, ?_, ?_, ?_, ?_, ?_, ?_, ?_, trivial⟩
       ·
        intro g65
        have g65p0 : 0 < ((v18 : Nat) : Int) := (of_decide_eq_true g65)
        assumption
       ·
        intro g66
        have g66p0 : 0 < ((v18 : Nat) : Int) := (of_decide_eq_true g66)
        assumption
       ·
        intro g67
        have g67p0 : 0 < ((v18 : Nat) : Int) := (of_decide_eq_true g67)
        omega
       ·
        intro g68
        have g68p0 : 0 < ((v18 : Nat) : Int) := (of_decide_eq_true g68)
        assumption
       ·
        intro g69
        have g69p0 : 0 < ((v18 : Nat) : Int) := (of_decide_eq_true g69)
        assumption
       ·
        intro g70
        have g70p0 : 0 < ((v18 : Nat) : Int) := (of_decide_eq_true g70)
        omega
       ·
        intro g71
        have g71p0 : 0 < ((v18 : Nat) : Int) := (of_decide_eq_true g71)
        assumption
       ·
        intro g72
        have g72p0 : 0 < ((v18 : Nat) : Int) := (of_decide_eq_true g72)
        assumption
       ·
        intro g73
        have g73p0 : 0 < ((v18 : Nat) : Int) := (of_decide_eq_true g73)
        assumption
       ·
        intro g74
        have g74p0 : 0 < ((v18 : Nat) : Int) := (of_decide_eq_true g74)
        trivial
       ·
        intro g75
        have g75p0 : 0 < ((v18 : Nat) : Int) := (of_decide_eq_true g75)
        assumption
       ·
        intro g76
        have g76p0 : 0 < ((v18 : Nat) : Int) := (of_decide_eq_true g76)
        assumption
      refine AW.cd (bif (decide (0 < ((v18 : Nat) : Int))) then (decide (0 < (icompareRows (List.getD (Tab.Rows t) (Int.toNat (((v18 : Nat) : Int) - 1)) []) (List.getD (Tab.Rows t) v18 [])))) else false) ?_ ?_
      ·
       intro h77
       have h77q : (0 < ((v18 : Nat) : Int)) ∧ (0 < (icompareRows (List.getD (Tab.Rows t) (Int.toNat (((v18 : Nat) : Int) - 1)) []) (List.getD (Tab.Rows t) v18 []))) := (And.imp (fun h => (of_decide_eq_true h)) (fun h => (of_decide_eq_true h)) (Go.Am.and_pos h77))
       have e78 := e64.trans (Go.Am.bif_t h77)
       refine AW.seq (AW.r1 hC [2] [] ⟨[(2, .bool false)], []⟩ ?_)
       refine AW.ret ?_
       have e79 := e8.trans (Go.Am.elim_r e78)
       exact AW.retE (β := Bool) (fun v => [⟨.bool, v⟩]) (fun v => []) (v := false) e79 (by kernel_rfl) rfl rfl
      ·
       intro h80
       have h80q : (¬ (0 < ((v18 : Nat) : Int))) ∨ (¬ (0 < (icompareRows (List.getD (Tab.Rows t) (Int.toNat (((v18 : Nat) : Int) - 1)) []) (List.getD (Tab.Rows t) v18 [])))) := (Or.imp (fun h => (of_decide_eq_false h)) (fun h => (of_decide_eq_false h)) (Go.Am.and_neg h80))
       have e81 := e64.trans (Go.Am.bif_f h80)
       refine AW.kp [1, 16, 17, 18] [4] ⟨[(1, .ref 4 1 0), (16, .data (.slice (.slice (.named 1))) ((Tab.Rows t) : List (List Val))), (17, .int .i64 ((List.length (Tab.Rows t) : Nat) : Int)), (18, .int .i64 ((v18 : Nat) : Int))], [(4, .box 1 [.int .i64 (Tab.Width t), .data (.slice (.slice (.named 1))) ((Tab.Rows t) : List (List Val))])]⟩ ?_
       refine AW.skip (AW.r0 hC [1, 16, 17, 18] [4] ⟨[(1, .ref 4 1 0), (16, .data (.slice (.slice (.named 1))) ((Tab.Rows t) : List (List Val))), (17, .int .i64 ((List.length (Tab.Rows t) : Nat) : Int)), (18, .int .i64 ((v18 + 1 : Nat) : Int))], [(4, .box 1 [.int .i64 (Tab.Width t), .data (.slice (.slice (.named 1))) ((Tab.Rows t) : List (List Val))])]⟩ [(-9223372036854775808 ≤ ((v18 + 1 : Nat) : Int) ∧ ((v18 + 1 : Nat) : Int) ≤ 9223372036854775807)] ?_ ?_)
       ·
        refine ⟨?_, trivial⟩
        ·
         omega
       refine AW.back (x := v18) (v18 + 1) (by kernel_rfl) ⟨?_, k53q, ?_, e81⟩ ?_
       ·
        show True
        assumption
       ·
        show (List.length (Tab.Rows t)) - (v18 + 1) < k53q
        omega
       ·
        show (List.length (Tab.Rows t)) - (v18 + 1) < (List.length (Tab.Rows t)) - v18
        omega
    ·
     intro h82
     have h82q : ¬ (((v18 : Nat) : Int) < ((List.length (Tab.Rows t) : Nat) : Int)) := (of_decide_eq_false h82)
     have e83 := e52.trans (Go.Am.bif_f h82)
     refine AW.kp [] [] ⟨[], []⟩ ?_
     refine AW.exit ?_
     refine AW.meet () (by kernel_rfl) ⟨?_, e83⟩
     show True
     assumption
  ·
   intro x hR
   obtain ⟨hJ0, e84⟩ := hR
   replace hJ0 : True := hJ0
   have e85 := e8.trans (Go.Am.elim_l e84)
   refine AW.seq (AW.r1 hC [2] [] ⟨[(2, .bool true)], []⟩ ?_)
   exact AW.ret (AW.retE (β := Bool) (fun v => [⟨.bool, v⟩]) (fun v => []) (v := true) e85 (by kernel_rfl) rfl rfl)

def validTable_l0 (t : Tab) : Nat → Nat → Unit ⊕ Bool
 | 0, i => .inl ()
 | k + 1, i => (bif (decide (((i : Nat) : Int) < ((List.length (Tab.Rows t) : Nat) : Int))) then (bif (bif (bif (!(validRow (List.getD (Tab.Rows t) i []))) then true else (((List.length (List.getD (Tab.Rows t) i []) : Nat) : Int) != (Tab.Width t))) then true else (bif (decide (0 < ((i : Nat) : Int))) then (decide (0 < (compareRows (List.getD (Tab.Rows t) (Int.toNat (((i : Nat) : Int) - 1)) []) (List.getD (Tab.Rows t) i [])))) else false)) then (.inr false) else (validTable_l0 t k (i + 1))) else (.inl ()))

def validTable (t : Tab) : Bool := (Sum.elim (fun _ => (bif (inRange (Tab.Width t) 1 6) then (decide (((List.length (Tab.Rows t) : Nat) : Int) ≤ 400)) else false)) (fun r => r) (validTable_l0 t ((List.length (Tab.Rows t)) - 0 + 1) 0))

def validTable_sp : FnSpec := mkSpec [.val (.named 2)] [.val .bool] (fun (t : Tab) => True) (fun (t : Tab) => [⟨.bool, (validTable t)⟩])

theorem validTable_ok : FnOK Try.prog 77 validTable_sp := by
 have hC : CtxOK Try.prog (mkCtx tyL [(64, inRange_sp), (65, validRow_sp), (106, compareRows_sp)]) := CtxOK.cons inRange_ok (CtxOK.cons validRow_ok (CtxOK.cons compareRows_ok (CtxOK.nil tyOK)))
 have hM : Try.prog.follows .mixedOrders = true := Try.checked.mixed
 refine FnOK.of_body Try.func77 (by kernel_rfl) rfl (C := (mkCtx tyL [(64, inRange_sp), (65, validRow_sp), (106, compareRows_sp)])) hC.ty (by kernel_rfl) ?_
 intro (t : Tab) hwf hpre E
 have hpre : True := hpre
 have hw_t : Wf ⟨(.named 2), (t : Tab)⟩ := hwf _ (List.Mem.head _)
 have hr_t_Width : -9223372036854775808 ≤ Tab.Width t ∧ Tab.Width t ≤ 9223372036854775807 := (hw_t.field (tv := ⟨(.int .i64), Tab.Width t⟩) (List.Mem.head _)).int_inv
 have hl_t_Rows : ((List.length (Tab.Rows t) : Nat) : Int) ≤ 9223372036854775807 := (hw_t.field (tv := ⟨(.slice (.slice (.named 1))), Tab.Rows t⟩) (List.Mem.tail _ (List.Mem.head _))).len
 have e0 : validTable t = validTable t := rfl
 refine AW.seq (AW.r1 hC [1] [4] ⟨[(1, .ref 4 1 0)], [(4, .box 1 [.int .i64 (Tab.Width t), .data (.slice (.slice (.named 1))) ((Tab.Rows t) : List (List Val))])]⟩ ?_)
 refine AW.seq (AW.seq (AW.r1 hC [1, 3] [4] ⟨[(1, .ref 4 1 0), (3, .int .i64 0)], [(4, .box 1 [.int .i64 (Tab.Width t), .data (.slice (.slice (.named 1))) ((Tab.Rows t) : List (List Val))])]⟩ ?_))
 refine AW.cutQ (α := Unit) (fun x => ⟨[(1, .ref 4 1 0)], [(4, .box 1 [.int .i64 (Tab.Width t), .data (.slice (.slice (.named 1))) ((Tab.Rows t) : List (List Val))])]⟩) (fun x => (True) ∧ (validTable_l0 t ((List.length (Tab.Rows t)) - 0 + 1) 0) = (.inl ())) ?_ ?_
 ·
  skip
  refine AW.block (AW.loop (α := Nat) (fun x => ⟨[(1, .ref 4 1 0), (3, .int .i64 ((x : Nat) : Int))], [(4, .box 1 [.int .i64 (Tab.Width t), .data (.slice (.slice (.named 1))) ((Tab.Rows t) : List (List Val))])]⟩) (fun x => (True) ∧ ∃ k, (List.length (Tab.Rows t)) - x < k ∧ (validTable_l0 t ((List.length (Tab.Rows t)) - 0 + 1) 0) = validTable_l0 t k x) (fun x => (List.length (Tab.Rows t)) - x) 0 (by kernel_rfl) ⟨?_, _, Nat.lt_succ_self _, rfl⟩ ?_)
  ·
   show True
   exact trivial
  ·
   intro i hR
   obtain ⟨hI0, k30, hk28, e29⟩ := hR
   replace hI0 : True := hI0
   replace hk28 : (List.length (Tab.Rows t)) - i < k30 := hk28
   obtain ⟨k30q, rfl⟩ : ∃ k, k30 = k + 1 := ⟨k30 - 1, by omega⟩
   refine AW.seq (AW.seq (AW.r1 hC [1, 3, 8] [4] ⟨[(1, .ref 4 1 0), (3, .int .i64 ((i : Nat) : Int)), (8, .bool (decide (((i : Nat) : Int) < ((List.length (Tab.Rows t) : Nat) : Int))))], [(4, .box 1 [.int .i64 (Tab.Width t), .data (.slice (.slice (.named 1))) ((Tab.Rows t) : List (List Val))])]⟩ ?_))
   refine AW.cd (decide (((i : Nat) : Int) < ((List.length (Tab.Rows t) : Nat) : Int))) ?_ ?_
   ·
    intro h31
    have h31q : ((i : Nat) : Int) < ((List.length (Tab.Rows t) : Nat) : Int) := (of_decide_eq_true h31)
    have e32 := e29.trans (Go.Am.bif_t h31)
    refine AW.kp [1, 3] [4] ⟨[(1, .ref 4 1 0), (3, .int .i64 ((i : Nat) : Int))], [(4, .box 1 [.int .i64 (Tab.Width t), .data (.slice (.slice (.named 1))) ((Tab.Rows t) : List (List Val))])]⟩ ?_
    refine AW.skip (AW.seq (AW.block (AW.seq (AW.d0 hC hM [1, 3, 47] [4] ⟨[(1, .ref 4 1 0), (3, .int .i64 ((i : Nat) : Int)), (47, .bool (bif (bif (!(validRow (List.getD (Tab.Rows t) i []))) then true else (((List.length (List.getD (Tab.Rows t) i []) : Nat) : Int) != (Tab.Width t))) then true else (bif (decide (0 < ((i : Nat) : Int))) then (decide (0 < (compareRows (List.getD (Tab.Rows t) (Int.toNat (((i : Nat) : Int) - 1)) []) (List.getD (Tab.Rows t) i [])))) else false)))], [(4, .box 1 [.int .i64 (Tab.Width t), .data (.slice (.slice (.named 1))) ((Tab.Rows t) : List (List Val))])]⟩ [(0 ≤ ((i : Nat) : Int) ∧ ((i : Nat) : Int) < ((List.length (Tab.Rows t) : Nat) : Int)), (True), (((!(validRow (List.getD (Tab.Rows t) i []))) = false) → (((!(validRow (List.getD (Tab.Rows t) i []))) = false))), (((!(validRow (List.getD (Tab.Rows t) i []))) = false) → (((!(validRow (List.getD (Tab.Rows t) i []))) = false))), (((!(validRow (List.getD (Tab.Rows t) i []))) = false) → (((!(validRow (List.getD (Tab.Rows t) i []))) = false))), (((!(validRow (List.getD (Tab.Rows t) i []))) = false) → (0 ≤ ((i : Nat) : Int) ∧ ((i : Nat) : Int) < ((List.length (Tab.Rows t) : Nat) : Int))), (((!(validRow (List.getD (Tab.Rows t) i []))) = false) → (((!(validRow (List.getD (Tab.Rows t) i []))) = false))), (((!(validRow (List.getD (Tab.Rows t) i []))) = false) → (((!(validRow (List.getD (Tab.Rows t) i []))) = false))), (((!(validRow (List.getD (Tab.Rows t) i []))) = false) → (((!(validRow (List.getD (Tab.Rows t) i []))) = false))), (((!(validRow (List.getD (Tab.Rows t) i []))) = false) → (((!(validRow (List.getD (Tab.Rows t) i []))) = false))), (((!(validRow (List.getD (Tab.Rows t) i []))) = false) → (((!(validRow (List.getD (Tab.Rows t) i []))) = false))), (((!(validRow (List.getD (Tab.Rows t) i []))) = false) → (((!(validRow (List.getD (Tab.Rows t) i []))) = false))), (((bif (!(validRow (List.getD (Tab.Rows t) i []))) then true else (((List.length (List.getD (Tab.Rows t) i []) : Nat) : Int) != (Tab.Width t))) = false) → (((bif (!(validRow (List.getD (Tab.Rows t) i []))) then true else (((List.length (List.getD (Tab.Rows t) i []) : Nat) : Int) != (Tab.Width t))) = false))), (((bif (!(validRow (List.getD (Tab.Rows t) i []))) then true else (((List.length (List.getD (Tab.Rows t) i []) : Nat) : Int) != (Tab.Width t))) = false) → (((bif (!(validRow (List.getD (Tab.Rows t) i []))) then true else (((List.length (List.getD (Tab.Rows t) i []) : Nat) : Int) != (Tab.Width t))) = false))), ((((bif (!(validRow (List.getD (Tab.Rows t) i []))) then true else (((List.length (List.getD (Tab.Rows t) i []) : Nat) : Int) != (Tab.Width t))) = false) ∧ ((decide (0 < ((i : Nat) : Int))) = true)) → ((((bif (!(validRow (List.getD (Tab.Rows t) i []))) then true else (((List.length (List.getD (Tab.Rows t) i []) : Nat) : Int) != (Tab.Width t))) = false) ∧ ((decide (0 < ((i : Nat) : Int))) = true)))), ((((bif (!(validRow (List.getD (Tab.Rows t) i []))) then true else (((List.length (List.getD (Tab.Rows t) i []) : Nat) : Int) != (Tab.Width t))) = false) ∧ ((decide (0 < ((i : Nat) : Int))) = true)) → ((((bif (!(validRow (List.getD (Tab.Rows t) i []))) then true else (((List.length (List.getD (Tab.Rows t) i []) : Nat) : Int) != (Tab.Width t))) = false) ∧ ((decide (0 < ((i : Nat) : Int))) = true)))), ((((bif (!(validRow (List.getD (Tab.Rows t) i []))) then true else (((List.length (List.getD (Tab.Rows t) i []) : Nat) : Int) != (Tab.Width t))) = false) ∧ ((decide (0 < ((i : Nat) : Int))) = true)) → (-9223372036854775808 ≤ (((i : Nat) : Int) - 1) ∧ (((i : Nat) : Int) - 1) ≤ 9223372036854775807)), ((((bif (!(validRow (List.getD (Tab.Rows t) i []))) then true else (((List.length (List.getD (Tab.Rows t) i []) : Nat) : Int) != (Tab.Width t))) = false) ∧ ((decide (0 < ((i : Nat) : Int))) = true)) → ((((bif (!(validRow (List.getD (Tab.Rows t) i []))) then true else (((List.length (List.getD (Tab.Rows t) i []) : Nat) : Int) != (Tab.Width t))) = false) ∧ ((decide (0 < ((i : Nat) : Int))) = true)))), ((((bif (!(validRow (List.getD (Tab.Rows t) i []))) then true else (((List.length (List.getD (Tab.Rows t) i []) : Nat) : Int) != (Tab.Width t))) = false) ∧ ((decide (0 < ((i : Nat) : Int))) = true)) → ((((bif (!(validRow (List.getD (Tab.Rows t) i []))) then true else (((List.length (List.getD (Tab.Rows t) i []) : Nat) : Int) != (Tab.Width t))) = false) ∧ ((decide (0 < ((i : Nat) : Int))) = true)))), ((((bif (!(validRow (List.getD (Tab.Rows t) i []))) then true else (((List.length (List.getD (Tab.Rows t) i []) : Nat) : Int) != (Tab.Width t))) = false) ∧ ((decide (0 < ((i : Nat) : Int))) = true)) → (0 ≤ (((i : Nat) : Int) - 1) ∧ (((i : Nat) : Int) - 1) < ((List.length (Tab.Rows t) : Nat) : Int))), ((((bif (!(validRow (List.getD (Tab.Rows t) i []))) then true else (((List.length (List.getD (Tab.Rows t) i []) : Nat) : Int) != (Tab.Width t))) = false) ∧ ((decide (0 < ((i : Nat) : Int))) = true)) → ((((bif (!(validRow (List.getD (Tab.Rows t) i []))) then true else (((List.length (List.getD (Tab.Rows t) i []) : Nat) : Int) != (Tab.Width t))) = false) ∧ ((decide (0 < ((i : Nat) : Int))) = true)))), ((((bif (!(validRow (List.getD (Tab.Rows t) i []))) then true else (((List.length (List.getD (Tab.Rows t) i []) : Nat) : Int) != (Tab.Width t))) = false) ∧ ((decide (0 < ((i : Nat) : Int))) = true)) → ((((bif (!(validRow (List.getD (Tab.Rows t) i []))) then true else (((List.length (List.getD (Tab.Rows t) i []) : Nat) : Int) != (Tab.Width t))) = false) ∧ ((decide (0 < ((i : Nat) : Int))) = true)))), ((((bif (!(validRow (List.getD (Tab.Rows t) i []))) then true else (((List.length (List.getD (Tab.Rows t) i []) : Nat) : Int) != (Tab.Width t))) = false) ∧ ((decide (0 < ((i : Nat) : Int))) = true)) → ((((bif (!(validRow (List.getD (Tab.Rows t) i []))) then true else (((List.length (List.getD (Tab.Rows t) i []) : Nat) : Int) != (Tab.Width t))) = false) ∧ ((decide (0 < ((i : Nat) : Int))) = true)))), ((((bif (!(validRow (List.getD (Tab.Rows t) i []))) then true else (((List.length (List.getD (Tab.Rows t) i []) : Nat) : Int) != (Tab.Width t))) = false) ∧ ((decide (0 < ((i : Nat) : Int))) = true)) → ((((bif (!(validRow (List.getD (Tab.Rows t) i []))) then true else (((List.length (List.getD (Tab.Rows t) i []) : Nat) : Int) != (Tab.Width t))) = false) ∧ ((decide (0 < ((i : Nat) : Int))) = true)))), ((((bif (!(validRow (List.getD (Tab.Rows t) i []))) then true else (((List.length (List.getD (Tab.Rows t) i []) : Nat) : Int) != (Tab.Width t))) = false) ∧ ((decide (0 < ((i : Nat) : Int))) = true)) → (0 ≤ ((i : Nat) : Int) ∧ ((i : Nat) : Int) < ((List.length (Tab.Rows t) : Nat) : Int))), ((((bif (!(validRow (List.getD (Tab.Rows t) i []))) then true else (((List.length (List.getD (Tab.Rows t) i []) : Nat) : Int) != (Tab.Width t))) = false) ∧ ((decide (0 < ((i : Nat) : Int))) = true)) → ((((bif (!(validRow (List.getD (Tab.Rows t) i []))) then true else (((List.length (List.getD (Tab.Rows t) i []) : Nat) : Int) != (Tab.Width t))) = false) ∧ ((decide (0 < ((i : Nat) : Int))) = true)))), ((((bif (!(validRow (List.getD (Tab.Rows t) i []))) then true else (((List.length (List.getD (Tab.Rows t) i []) : Nat) : Int) != (Tab.Width t))) = false) ∧ ((decide (0 < ((i : Nat) : Int))) = true)) → ((((bif (!(validRow (List.getD (Tab.Rows t) i []))) then true else (((List.length (List.getD (Tab.Rows t) i []) : Nat) : Int) != (Tab.Width t))) = false) ∧ ((decide (0 < ((i : Nat) : Int))) = true)))), ((((bif (!(validRow (List.getD (Tab.Rows t) i []))) then true else (((List.length (List.getD (Tab.Rows t) i []) : Nat) : Int) != (Tab.Width t))) = false) ∧ ((decide (0 < ((i : Nat) : Int))) = true)) → ((((bif (!(validRow (List.getD (Tab.Rows t) i []))) then true else (((List.length (List.getD (Tab.Rows t) i []) : Nat) : Int) != (Tab.Width t))) = false) ∧ ((decide (0 < ((i : Nat) : Int))) = true)))), ((((bif (!(validRow (List.getD (Tab.Rows t) i []))) then true else (((List.length (List.getD (Tab.Rows t) i []) : Nat) : Int) != (Tab.Width t))) = false) ∧ ((decide (0 < ((i : Nat) : Int))) = true)) → (True)), ((((bif (!(validRow (List.getD (Tab.Rows t) i []))) then true else (((List.length (List.getD (Tab.Rows t) i []) : Nat) : Int) != (Tab.Width t))) = false) ∧ ((decide (0 < ((i : Nat) : Int))) = true)) → ((((bif (!(validRow (List.getD (Tab.Rows t) i []))) then true else (((List.length (List.getD (Tab.Rows t) i []) : Nat) : Int) != (Tab.Width t))) = false) ∧ ((decide (0 < ((i : Nat) : Int))) = true)))), (((bif (!(validRow (List.getD (Tab.Rows t) i []))) then true else (((List.length (List.getD (Tab.Rows t) i []) : Nat) : Int) != (Tab.Width t))) = false) → (((bif (!(validRow (List.getD (Tab.Rows t) i []))) then true else (((List.length (List.getD (Tab.Rows t) i []) : Nat) : Int) != (Tab.Width t))) = false))), (((bif (!(validRow (List.getD (Tab.Rows t) i []))) then true else (((List.length (List.getD (Tab.Rows t) i []) : Nat) : Int) != (Tab.Width t))) = false) → (((decide (0 < ((i : Nat) : Int))) = true) → ((((bif (!(validRow (List.getD (Tab.Rows t) i []))) then true else (((List.length (List.getD (Tab.Rows t) i []) : Nat) : Int) != (Tab.Width t))) = false) ∧ ((decide (0 < ((i : Nat) : Int))) = true))))), (((bif (!(validRow (List.getD (Tab.Rows t) i []))) then true else (((List.length (List.getD (Tab.Rows t) i []) : Nat) : Int) != (Tab.Width t))) = false) → (((bif (!(validRow (List.getD (Tab.Rows t) i []))) then true else (((List.length (List.getD (Tab.Rows t) i []) : Nat) : Int) != (Tab.Width t))) = false)))] ?_ ?_))))
    ·
     refine ⟨?_, ?_, ?_, ?_, ?_, ?_, ?_, ?_, ?_, ?_, ?_, ?_, ?_, ?_, ?_, ?_, ?_, ?_, ?_, ?_, ?_, ?_, ?_, ?_, ?_, ?_, ?_, ?_, ?_, ?_, ?_, ?_, ?_, trivial⟩
     ·
      omega
     ·
      trivial
     ·
      intro g33
      have g33p0 : (validRow (List.getD (Tab.Rows t) i [])) = true := (Go.Am.not_neg g33)
      assumption
     ·
      intro g34
      have g34p0 : (validRow (List.getD (Tab.Rows t) i [])) = true := (Go.Am.not_neg g34)
      assumption
     ·
      intro g35
      have g35p0 : (validRow (List.getD (Tab.Rows t) i [])) = true := (Go.Am.not_neg g35)
      assumption
     ·
      intro g36
      have g36p0 : (validRow (List.getD (Tab.Rows t) i [])) = true := (Go.Am.not_neg g36)
      omega
     ·
      intro g37
      have g37p0 : (validRow (List.getD (Tab.Rows t) i [])) = true := (Go.Am.not_neg g37)
      assumption
     ·
      intro g38
      have g38p0 : (validRow (List.getD (Tab.Rows t) i [])) = true := (Go.Am.not_neg g38)
      assumption
     ·
      intro g39
      have g39p0 : (validRow (List.getD (Tab.Rows t) i [])) = true := (Go.Am.not_neg g39)
      assumption
     ·
      intro g40
      have g40p0 : (validRow (List.getD (Tab.Rows t) i [])) = true := (Go.Am.not_neg g40)
      assumption
     ·
      intro g41
      have g41p0 : (validRow (List.getD (Tab.Rows t) i [])) = true := (Go.Am.not_neg g41)
      assumption
     ·
      intro g42
      have g42p0 : (validRow (List.getD (Tab.Rows t) i [])) = true := (Go.Am.not_neg g42)
      assumption
     ·
      intro g43
      have g43p0 : ((validRow (List.getD (Tab.Rows t) i [])) = true) ∧ (((List.length (List.getD (Tab.Rows t) i []) : Nat) : Int) = (Tab.Width t)) := (And.imp (fun h => (Go.Am.not_neg h)) (fun h => (Go.Am.bne_neg h)) (Go.Am.or_neg g43))
      assumption
     ·
      intro g44
      have g44p0 : ((validRow (List.getD (Tab.Rows t) i [])) = true) ∧ (((List.length (List.getD (Tab.Rows t) i []) : Nat) : Int) = (Tab.Width t)) := (And.imp (fun h => (Go.Am.not_neg h)) (fun h => (Go.Am.bne_neg h)) (Go.Am.or_neg g44))
      assumption
     ·
      intro g45
      have g45p0 : ((validRow (List.getD (Tab.Rows t) i [])) = true) ∧ (((List.length (List.getD (Tab.Rows t) i []) : Nat) : Int) = (Tab.Width t)) := (And.imp (fun h => (Go.Am.not_neg h)) (fun h => (Go.Am.bne_neg h)) (Go.Am.or_neg (g45).1))
      have g45p1 : 0 < ((i : Nat) : Int) := (of_decide_eq_true (g45).2)
      assumption
     ·
      intro g46
      have g46p0 : ((validRow (List.getD (Tab.Rows t) i [])) = true) ∧ (((List.length (List.getD (Tab.Rows t) i []) : Nat) : Int) = (Tab.Width t)) := (And.imp (fun h => (Go.Am.not_neg h)) (fun h => (Go.Am.bne_neg h)) (Go.Am.or_neg (g46).1))
      have g46p1 : 0 < ((i : Nat) : Int) := (of_decide_eq_true (g46).2)
      assumption
     ·
      intro g47
      have g47p0 : ((validRow (List.getD (Tab.Rows t) i [])) = true) ∧ (((List.length (List.getD (Tab.Rows t) i []) : Nat) : Int) = (Tab.Width t)) := (And.imp (fun h => (Go.Am.not_neg h)) (fun h => (Go.Am.bne_neg h)) (Go.Am.or_neg (g47).1))
      have g47p1 : 0 < ((i : Nat) : Int) := (of_decide_eq_true (g47).2)
      omega
     ·
      intro g48
      have g48p0 : ((validRow (List.getD (Tab.Rows t) i [])) = true) ∧ (((List.length (List.getD (Tab.Rows t) i []) : Nat) : Int) = (Tab.Width t)) := (And.imp (fun h => (Go.Am.not_neg h)) (fun h => (Go.Am.bne_neg h)) (Go.Am.or_neg (g48).1))
      have g48p1 : 0 < ((i : Nat) : Int) := (of_decide_eq_true (g48).2)
      assumption
     ·
      intro g49
      have g49p0 : ((validRow (List.getD (Tab.Rows t) i [])) = true) ∧ (((List.length (List.getD (Tab.Rows t) i []) : Nat) : Int) = (Tab.Width t)) := (And.imp (fun h => (Go.Am.not_neg h)) (fun h => (Go.Am.bne_neg h)) (Go.Am.or_neg (g49).1))
      have g49p1 : 0 < ((i : Nat) : Int) := (of_decide_eq_true (g49).2)
      assumption
     ·
      intro g50
      have g50p0 : ((validRow (List.getD (Tab.Rows t) i [])) = true) ∧ (((List.length (List.getD (Tab.Rows t) i []) : Nat) : Int) = (Tab.Width t)) := (And.imp (fun h => (Go.Am.not_neg h)) (fun h => (Go.Am.bne_neg h)) (Go.Am.or_neg (g50).1))
      have g50p1 : 0 < ((i : Nat) : Int) := (of_decide_eq_true (g50).2)
      omega
     ·
      intro g51
      have g51p0 : ((validRow (List.getD (Tab.Rows t) i [])) = true) ∧ (((List.length (List.getD (Tab.Rows t) i []) : Nat) : Int) = (Tab.Width t)) := (And.imp (fun h => (Go.Am.not_neg h)) (fun h => (Go.Am.bne_neg h)) (Go.Am.or_neg (g51).1))
      have g51p1 : 0 < ((i : Nat) : Int) := (of_decide_eq_true (g51).2)
      assumption
     ·
      intro g52
      have g52p0 : ((validRow (List.getD (Tab.Rows t) i [])) = true) ∧ (((List.length (List.getD (Tab.Rows t) i []) : Nat) : Int) = (Tab.Width t)) := (And.imp (fun h => (Go.Am.not_neg h)) (fun h => (Go.Am.bne_neg h)) (Go.Am.or_neg (g52).1))
      have g52p1 : 0 < ((i : Nat) : Int) := (of_decide_eq_true (g52).2)
      assumption
     ·
      intro g53
      have g53p0 : ((validRow (List.getD (Tab.Rows t) i [])) = true) ∧ (((List.length (List.getD (Tab.Rows t) i []) : Nat) : Int) = (Tab.Width t)) := (And.imp (fun h => (Go.Am.not_neg h)) (fun h => (Go.Am.bne_neg h)) (Go.Am.or_neg (g53).1))
      have g53p1 : 0 < ((i : Nat) : Int) := (of_decide_eq_true (g53).2)
      assumption
     ·
      intro g54
      have g54p0 : ((validRow (List.getD (Tab.Rows t) i [])) = true) ∧ (((List.length (List.getD (Tab.Rows t) i []) : Nat) : Int) = (Tab.Width t)) := (And.imp (fun h => (Go.Am.not_neg h)) (fun h => (Go.Am.bne_neg h)) (Go.Am.or_neg (g54).1))
      have g54p1 : 0 < ((i : Nat) : Int) := (of_decide_eq_true (g54).2)
      assumption
     ·
      intro g55
      have g55p0 : ((validRow (List.getD (Tab.Rows t) i [])) = true) ∧ (((List.length (List.getD (Tab.Rows t) i []) : Nat) : Int) = (Tab.Width t)) := (And.imp (fun h => (Go.Am.not_neg h)) (fun h => (Go.Am.bne_neg h)) (Go.Am.or_neg (g55).1))
      have g55p1 : 0 < ((i : Nat) : Int) := (of_decide_eq_true (g55).2)
      omega
     ·
      intro g56
      have g56p0 : ((validRow (List.getD (Tab.Rows t) i [])) = true) ∧ (((List.length (List.getD (Tab.Rows t) i []) : Nat) : Int) = (Tab.Width t)) := (And.imp (fun h => (Go.Am.not_neg h)) (fun h => (Go.Am.bne_neg h)) (Go.Am.or_neg (g56).1))
      have g56p1 : 0 < ((i : Nat) : Int) := (of_decide_eq_true (g56).2)
      assumption
     ·
      intro g57
      have g57p0 : ((validRow (List.getD (Tab.Rows t) i [])) = true) ∧ (((List.length (List.getD (Tab.Rows t) i []) : Nat) : Int) = (Tab.Width t)) := (And.imp (fun h => (Go.Am.not_neg h)) (fun h => (Go.Am.bne_neg h)) (Go.Am.or_neg (g57).1))
      have g57p1 : 0 < ((i : Nat) : Int) := (of_decide_eq_true (g57).2)
      assumption
     ·
      intro g58
      have g58p0 : ((validRow (List.getD (Tab.Rows t) i [])) = true) ∧ (((List.length (List.getD (Tab.Rows t) i []) : Nat) : Int) = (Tab.Width t)) := (And.imp (fun h => (Go.Am.not_neg h)) (fun h => (Go.Am.bne_neg h)) (Go.Am.or_neg (g58).1))
      have g58p1 : 0 < ((i : Nat) : Int) := (of_decide_eq_true (g58).2)
      assumption
     ·
      intro g59
      have g59p0 : ((validRow (List.getD (Tab.Rows t) i [])) = true) ∧ (((List.length (List.getD (Tab.Rows t) i []) : Nat) : Int) = (Tab.Width t)) := (And.imp (fun h => (Go.Am.not_neg h)) (fun h => (Go.Am.bne_neg h)) (Go.Am.or_neg (g59).1))
      have g59p1 : 0 < ((i : Nat) : Int) := (of_decide_eq_true (g59).2)
      trivial
     ·
      intro g60
      have g60p0 : ((validRow (List.getD (Tab.Rows t) i [])) = true) ∧ (((List.length (List.getD (Tab.Rows t) i []) : Nat) : Int) = (Tab.Width t)) := (And.imp (fun h => (Go.Am.not_neg h)) (fun h => (Go.Am.bne_neg h)) (Go.Am.or_neg (g60).1))
      have g60p1 : 0 < ((i : Nat) : Int) := (of_decide_eq_true (g60).2)
      assumption
     ·
      intro g61
      have g61p0 : ((validRow (List.getD (Tab.Rows t) i [])) = true) ∧ (((List.length (List.getD (Tab.Rows t) i []) : Nat) : Int) = (Tab.Width t)) := (And.imp (fun h => (Go.Am.not_neg h)) (fun h => (Go.Am.bne_neg h)) (Go.Am.or_neg g61))
      assumption
     ·
      intro g62
      have g62p0 : ((validRow (List.getD (Tab.Rows t) i [])) = true) ∧ (((List.length (List.getD (Tab.Rows t) i []) : Nat) : Int) = (Tab.Width t)) := (And.imp (fun h => (Go.Am.not_neg h)) (fun h => (Go.Am.bne_neg h)) (Go.Am.or_neg g62))
      intro g63
      have g63p0 : 0 < ((i : Nat) : Int) := (of_decide_eq_true g63)
      exact ⟨by assumption, by assumption⟩
     ·
      intro g64
      have g64p0 : ((validRow (List.getD (Tab.Rows t) i [])) = true) ∧ (((List.length (List.getD (Tab.Rows t) i []) : Nat) : Int) = (Tab.Width t)) := (And.imp (fun h => (Go.Am.not_neg h)) (fun h => (Go.Am.bne_neg h)) (Go.Am.or_neg g64))
      assumption
    refine AW.cd (bif (bif (!(validRow (List.getD (Tab.Rows t) i []))) then true else (((List.length (List.getD (Tab.Rows t) i []) : Nat) : Int) != (Tab.Width t))) then true else (bif (decide (0 < ((i : Nat) : Int))) then (decide (0 < (compareRows (List.getD (Tab.Rows t) (Int.toNat (((i : Nat) : Int) - 1)) []) (List.getD (Tab.Rows t) i [])))) else false)) ?_ ?_
    ·
     intro h65
     have h65q : (((validRow (List.getD (Tab.Rows t) i [])) = false) ∨ (((List.length (List.getD (Tab.Rows t) i []) : Nat) : Int) ≠ (Tab.Width t))) ∨ ((0 < ((i : Nat) : Int)) ∧ (0 < (compareRows (List.getD (Tab.Rows t) (Int.toNat (((i : Nat) : Int) - 1)) []) (List.getD (Tab.Rows t) i [])))) := (Or.imp (fun h => (Or.imp (fun h => (Go.Am.not_pos h)) (fun h => (Go.Am.bne_pos h)) (Go.Am.or_pos h))) (fun h => (And.imp (fun h => (of_decide_eq_true h)) (fun h => (of_decide_eq_true h)) (Go.Am.and_pos h))) (Go.Am.or_pos h65))
     have e66 := e32.trans (Go.Am.bif_t h65)
     refine AW.seq (AW.r1 hC [2] [] ⟨[(2, .bool false)], []⟩ ?_)
     refine AW.ret ?_
     have e67 := e0.trans (Go.Am.elim_r e66)
     exact AW.retE (β := Bool) (fun v => [⟨.bool, v⟩]) (fun v => []) (v := false) e67 (by kernel_rfl) rfl rfl
    ·
     intro h68
     have h68q : (((validRow (List.getD (Tab.Rows t) i [])) = true) ∧ (((List.length (List.getD (Tab.Rows t) i []) : Nat) : Int) = (Tab.Width t))) ∧ ((¬ (0 < ((i : Nat) : Int))) ∨ (¬ (0 < (compareRows (List.getD (Tab.Rows t) (Int.toNat (((i : Nat) : Int) - 1)) []) (List.getD (Tab.Rows t) i []))))) := (And.imp (fun h => (And.imp (fun h => (Go.Am.not_neg h)) (fun h => (Go.Am.bne_neg h)) (Go.Am.or_neg h))) (fun h => (Or.imp (fun h => (of_decide_eq_false h)) (fun h => (of_decide_eq_false h)) (Go.Am.and_neg h))) (Go.Am.or_neg h68))
     have e69 := e32.trans (Go.Am.bif_f h68)
     refine AW.kp [1, 3] [4] ⟨[(1, .ref 4 1 0), (3, .int .i64 ((i : Nat) : Int))], [(4, .box 1 [.int .i64 (Tab.Width t), .data (.slice (.slice (.named 1))) ((Tab.Rows t) : List (List Val))])]⟩ ?_
     refine AW.skip (AW.r0 hC [1, 3] [4] ⟨[(1, .ref 4 1 0), (3, .int .i64 ((i + 1 : Nat) : Int))], [(4, .box 1 [.int .i64 (Tab.Width t), .data (.slice (.slice (.named 1))) ((Tab.Rows t) : List (List Val))])]⟩ [(-9223372036854775808 ≤ ((i + 1 : Nat) : Int) ∧ ((i + 1 : Nat) : Int) ≤ 9223372036854775807)] ?_ ?_)
     ·
      refine ⟨?_, trivial⟩
      ·
       omega
     refine AW.back (x := i) (i + 1) (by kernel_rfl) ⟨?_, k30q, ?_, e69⟩ ?_
     ·
      show True
      assumption
     ·
      show (List.length (Tab.Rows t)) - (i + 1) < k30q
      omega
     ·
      show (List.length (Tab.Rows t)) - (i + 1) < (List.length (Tab.Rows t)) - i
      omega
   ·
    intro h70
    have h70q : ¬ (((i : Nat) : Int) < ((List.length (Tab.Rows t) : Nat) : Int)) := (of_decide_eq_false h70)
    have e71 := e29.trans (Go.Am.bif_f h70)
    refine AW.kp [1] [4] ⟨[(1, .ref 4 1 0)], [(4, .box 1 [.int .i64 (Tab.Width t), .data (.slice (.slice (.named 1))) ((Tab.Rows t) : List (List Val))])]⟩ ?_
    refine AW.exit ?_
    refine AW.meet () (by kernel_rfl) ⟨?_, e71⟩
    show True
    assumption
 ·
  intro x hR
  obtain ⟨hJ0, e72⟩ := hR
  replace hJ0 : True := hJ0
  have e73 := e0.trans (Go.Am.elim_l e72)
  refine AW.seq (AW.r0 hC [2] [] ⟨[(2, .bool (bif (inRange (Tab.Width t) 1 6) then (decide (((List.length (Tab.Rows t) : Nat) : Int) ≤ 400)) else false))], []⟩ [(True), (((inRange (Tab.Width t) 1 6) = true) → (((inRange (Tab.Width t) 1 6) = true))), (((inRange (Tab.Width t) 1 6) = true) → (((inRange (Tab.Width t) 1 6) = true))), (((inRange (Tab.Width t) 1 6) = true) → (((inRange (Tab.Width t) 1 6) = true))), (((inRange (Tab.Width t) 1 6) = true) → (((inRange (Tab.Width t) 1 6) = true)))] ?_ ?_)
  ·
   refine ⟨?_, ?_, ?_, ?_, ?_, trivial⟩
   ·
    trivial
   ·
    intro g74
    have g74p0 : (inRange (Tab.Width t) 1 6) = true := g74
    assumption
   ·
    intro g75
    have g75p0 : (inRange (Tab.Width t) 1 6) = true := g75
    assumption
   ·
    intro g76
    have g76p0 : (inRange (Tab.Width t) 1 6) = true := g76
    assumption
   ·
    intro g77
    have g77p0 : (inRange (Tab.Width t) 1 6) = true := g77
    assumption
  exact AW.ret (AW.retE (β := Bool) (fun v => [⟨.bool, v⟩]) (fun v => []) (v := (bif (inRange (Tab.Width t) 1 6) then (decide (((List.length (Tab.Rows t) : Nat) : Int) ≤ 400)) else false)) e73 (by kernel_rfl) rfl rfl)

end
end Go.Proofs.Ytjcjpeckfikfkaa
