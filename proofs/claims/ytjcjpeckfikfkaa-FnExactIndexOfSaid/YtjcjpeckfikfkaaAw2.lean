/-
  A part of the proof of this claim (Aw2): what functions of the program compute, and plain facts of that. No conditions.
-/
import Derived.Test.YtjcjpeckfikfkaaAw1
import Derived.Test.YtjcjpeckfikfkaaAnL
set_option linter.all false
namespace Go.Proofs.Ytjcjpeckfikfkaa
open Go Go.Am
open Go.Am.AW (seq r1U ret kpU cdE r0U r1 meet block rS bk exit lpB r0 kp d0U)
open List (length getD)
noncomputable section

theorem inRange_iff {n l h : Int} : inRange n l h = true ↔ l ≤ n ∧ n ≤ h := by
 unfold inRange; by_cases e : l ≤ n <;> simp [e]

theorem validWidth_iff {w : Int} : validWidth w = true ↔ 1 ≤ w ∧ w ≤ 6 := by
 unfold validWidth; by_cases h : 1 ≤ w <;> simp [h]

def VV (v : Val) : Prop := if v.Null = true then v.N = 0 else -9999 ≤ v.N ∧ v.N ≤ 9999

theorem valValid_iff {v : Val} : valValid v = true ↔ VV v := by
 unfold valValid VV
 cases h : v.Null with
 | true => simp
 | false =>
  by_cases h1 : -9999 ≤ v.N <;> simp [h1]

theorem validValue_iff {v : Val} : validValue v = true ↔ VV v := by
 unfold validValue VV
 cases h : v.Null with
 | true =>
  cases e : inRange v.N (-9999) 9999 with
  | false =>
   simp; intro h0; have : inRange v.N (-9999) 9999 = true := inRange_iff.2 (by omega)
   rw [e] at this
   cases this
  | true => simp
 | false =>
  cases e : inRange v.N (-9999) 9999 with
  | false =>
   simp; intro h0; rcases Int.lt_or_le 9999 v.N with h | h
   · exact h
   ·
    have : inRange v.N (-9999) 9999 = true := inRange_iff.2 (by omega)
    rw [e] at this
    cases this
  | true =>
   have := inRange_iff.1 e; simp; omega

structure VR (r : List Val) : Prop where
 n1 : 1 ≤ r.length
 n6 : r.length ≤ 6
 vs : ∀ i < r.length, VV (r.getD i Val.zero)

theorem ivalidRow_iff {r : List Val} : ivalidRow r = true ↔ VR r := by
 unfold ivalidRow
 cases h : validWidth (r.length : Int) with
 | false =>
  simp only [Bool.not_false, cond_true, Bool.false_eq_true, false_iff]; rintro ⟨h1, h2, _⟩; have : validWidth (r.length : Int) = true := validWidth_iff.2 ⟨by omega, by omega⟩
  rw [h] at this
  cases this
 | true =>
  have hw := validWidth_iff.1 h; simp only [Bool.not_true, cond_false]; rcases all_loop (ivalidRow_l0 r) r.length (fun i => !(valValid (getD r i Val.zero))) (fun k i => rfl) (r.length - 0 + 1) 0 (by omega) with ⟨h1, h2⟩ | ⟨h1, j, h2, h3, h4⟩
  · rw [h1]; simp only [Sum.elim_inl, true_iff]; exact ⟨by omega, by omega, fun i hi => valValid_iff.1 (not_neg (h2 i (by omega) hi))⟩
  · rw [h1]; simp only [Sum.elim_inr, Bool.false_eq_true, false_iff]; rintro ⟨_, _, hv⟩; have := valValid_iff.2 (hv j h3); rw [this] at h4; cases h4

theorem validRow_iff {r : List Val} : validRow r = true ↔ VR r := by
 unfold validRow; rcases all_loop (validRow_l0 r) r.length (fun i => !(validValue (getD r i Val.zero))) (fun k i => rfl) (r.length - 0 + 1) 0 (by omega) with ⟨h1, h2⟩ | ⟨h1, j, h2, h3, h4⟩
 ·
  rw [h1]; simp only [Sum.elim_inl]; rw [inRange_iff]; constructor
  · intro hn; exact ⟨by omega, by omega, fun i hi => validValue_iff.1 (not_neg (h2 i (by omega) hi))⟩
  · rintro ⟨_, _, _⟩; omega
 · rw [h1]; simp only [Sum.elim_inr, Bool.false_eq_true, false_iff]; rintro ⟨_, _, hv⟩; have := validValue_iff.2 (hv j h3); rw [this] at h4; cases h4

theorem Val.ext' {a b : Val} (h1 : a.Null = b.Null) (h2 : a.N = b.N) : a = b := by
 cases a; cases b; cases h1; cases h2; rfl

theorem cmpV {v w : Val} (hv : VV v) (hw : VV w) : valCompare v w = compareValues v w := by
 unfold VV at hv hw; unfold valCompare compareValues compareInt isNaN; cases h1 : v.Null <;> cases h2 : w.Null <;> rw [h1] at hv <;> rw [h2] at hw <;> simp at hv hw ⊢
 ·
  by_cases e : v.N = w.N
  · simp [e]
  ·
   have e' : (v.N == w.N) = false := beq_false_of_ne e; by_cases e2 : v.N < w.N
   · simp [e', e2]
   · (have : w.N < v.N := by omega); simp [e', e2, this]
 · rw [hv, hw]; simp

theorem cmpRows {a b : List Val} (ha : VR a) (hb : VR b) (hl : b.length = a.length) : icompareRows a b = compareRows a b := by
 unfold icompareRows compareRows icompareRows_c0
 have key : ∀ k i, a.length - i < k → Sum.elim (fun _ => (bif decide ((length a : Int) < (length b : Int)) then (-1 : Int) else 0)) (fun r => r) (icompareRows_l0 a b k i) = Sum.elim (fun _ => ((length a : Int) - (length b : Int))) (fun r => r) (compareRows_l0 a b k i) := by
  intro k
  induction k with
  | zero => intro i h; omega
  | succ k ih =>
   intro i hk; unfold icompareRows_l0 compareRows_l0; rw [hl]; by_cases h : i < a.length
   ·
    rw [lt_dec h, cond_true, cond_true, cond_true, show decide ((a.length : Int) ≤ (i : Int)) = false by simp; exact h, cond_false, cmpV (ha.vs i h) (hb.vs i (by omega))]
    cases compareValues (a.getD i Val.zero) (b.getD i Val.zero) != 0 with
    | true => rfl
    | false =>
     rw [cond_false, cond_false]; have ih := ih (i + 1) (by omega); rw [hl] at ih; exact ih
   · rw [ge_dec h]; simp
 have := key (a.length - 0 + 1) 0 (by omega)
 exact this

def ValidTable_l0 (t : Tab) : Nat → Nat → Unit ⊕ Bool
 | 0, v18 => .inl ()
 | k + 1, v18 => (bif (decide ((v18 : Int) < (length (Tab.Rows t) : Int))) then (bif (bif ((length (getD (Tab.Rows t) v18 []) : Int) != (Tab.Width t)) then true else (!(ivalidRow (getD (Tab.Rows t) v18 [])))) then (.inr false) else (bif (bif (decide (0 < (v18 : Int))) then (decide (0 < (icompareRows (getD (Tab.Rows t) (Int.toNat ((v18 : Int) - 1)) []) (getD (Tab.Rows t) v18 [])))) else false) then (.inr false) else (ValidTable_l0 t k (v18 + 1)))) else (.inl ()))

def ValidTable (t : Tab) : Bool := (bif (bif (!(validWidth (Tab.Width t))) then true else (decide (400 < (length (Tab.Rows t) : Int)))) then false else (Sum.elim (fun _ => true) (fun r => r) (ValidTable_l0 t ((length (Tab.Rows t)) - 0 + 1) 0)))

def ValidTable_sp : FnSpec := mkSpec [.val (.named 2)] [.val .bool] (fun (t : Tab) => True) (fun (t : Tab) => [⟨.bool, (ValidTable t)⟩])

theorem ValidTable_ok : FnOK Try.prog 19 ValidTable_sp := by
 have hC : CtxOK Try.prog (mkCtx tyL [(60, validWidth_sp), (61, ivalidRow_sp), (68, icompareRows_sp)]) := CtxOK.cons validWidth_ok (CtxOK.cons ivalidRow_ok (CtxOK.cons icompareRows_ok (CtxOK.nil tyOK))); refine FnOK.of_body Try.func19 (by kernel_rfl) rfl (C := (mkCtx tyL [(60, validWidth_sp), (61, ivalidRow_sp), (68, icompareRows_sp)])) hC.ty (by kernel_rfl) ?_; intro (t : Tab) hwf hpre E; have e0 : ValidTable t = ValidTable t := rfl; refine seq (r1 hC [1] [4] ⟨[(1, .ref 4 1 0)], [(4, .box 1 [.int .i64 (Tab.Width t), .data (.slice (.slice (.named 1))) ((Tab.Rows t) : List (List Val))])]⟩ ?_); refine seq (seq (r0U hC [1, 14] [4] [(14, .bool (bif (!(validWidth (Tab.Width t))) then true else (decide (400 < (length (Tab.Rows t) : Int)))))] [] [(True), (((!(validWidth (Tab.Width t))) = false) → (((!(validWidth (Tab.Width t))) = false))), (((!(validWidth (Tab.Width t))) = false) → (((!(validWidth (Tab.Width t))) = false))), (((!(validWidth (Tab.Width t))) = false) → (((!(validWidth (Tab.Width t))) = false))), (((!(validWidth (Tab.Width t))) = false) → (((!(validWidth (Tab.Width t))) = false)))] ?_ ?_))
 ·
  exact ⟨trivial, (by intro g1; assumption), (by intro g2; assumption), (by intro g3; assumption), (by intro g4; assumption), trivial⟩
 refine cdE e0 ?_ ?_
 · intro h5q e6; refine seq (r1 hC [2] [] ⟨[(2, .bool false)], []⟩ ?_); exact ret (rS .bool e6)
 ·
  intro h7q e8; refine kpU [1] [4] [] [] ?_; refine AW.skip (seq (seq (r1U hC [1, 16, 17, 18] [4] [(16, .data (.slice (.slice (.named 1))) ((Tab.Rows t) : List (List Val))), (17, .int .i64 (length (Tab.Rows t) : Int)), (18, .int .i64 0)] [] ?_))); refine lpB (ζ := Unit) (fun x => ⟨[], []⟩) (fun x => True) (fun x => (.inl ())) (α := Nat) (fun x => ⟨[(1, .ref 4 1 0), (16, .data (.slice (.slice (.named 1))) ((Tab.Rows t) : List (List Val))), (17, .int .i64 (length (Tab.Rows t) : Int)), (18, .int .i64 (x : Int))], [(4, .box 1 [.int .i64 (Tab.Width t), .data (.slice (.slice (.named 1))) ((Tab.Rows t) : List (List Val))])]⟩) (fun x => True) (fun x => (length (Tab.Rows t)) - x) (fun k x => ValidTable_l0 t k x) 0 (by kernel_rfl) ?_ ?_ ?_
  · exact trivial
  ·
   intro v18 k53q hI0 hk51 e52; refine seq (r1U hC [1, 16, 17, 18, 19] [4] [(19, .bool (decide ((v18 : Int) < (length (Tab.Rows t) : Int))))] [] ?_); refine seq (cdE e52 ?_ ?_)
   ·
    intro h54q e55; refine kpU [1, 16, 17, 18] [4] [] [] ?_; refine AW.skip (seq (block (seq (r0U hC [1, 3, 4, 16, 17, 18] [4] [(3, .int .i64 (v18 : Int)), (4, .data (.slice (.named 1)) ((getD (Tab.Rows t) v18 []) : List Val))] [] [(0 ≤ (v18 : Int) ∧ (v18 : Int) < (length (Tab.Rows t) : Int))] ?_ ?_))))
    ·
     exact ⟨(by omega), trivial⟩
    refine seq (seq (r0U hC [1, 3, 4, 16, 17, 18, 32] [4] [(32, .bool (bif ((length (getD (Tab.Rows t) v18 []) : Int) != (Tab.Width t)) then true else (!(ivalidRow (getD (Tab.Rows t) v18 [])))))] [] [((((length (getD (Tab.Rows t) v18 []) : Int) != (Tab.Width t)) = false) → ((((length (getD (Tab.Rows t) v18 []) : Int) != (Tab.Width t)) = false))), ((((length (getD (Tab.Rows t) v18 []) : Int) != (Tab.Width t)) = false) → (True)), ((((length (getD (Tab.Rows t) v18 []) : Int) != (Tab.Width t)) = false) → ((((length (getD (Tab.Rows t) v18 []) : Int) != (Tab.Width t)) = false))), ((((length (getD (Tab.Rows t) v18 []) : Int) != (Tab.Width t)) = false) → ((((length (getD (Tab.Rows t) v18 []) : Int) != (Tab.Width t)) = false)))] ?_ ?_))
    ·
     exact ⟨(by intro g56; assumption), (by intro g57; trivial), (by intro g58; assumption), (by intro g59; assumption), trivial⟩
    refine cdE e55 ?_ ?_
    · intro h60q e61; refine seq (r1 hC [2] [] ⟨[(2, .bool false)], []⟩ ?_); refine ret ?_; have e62 := e8.trans (elim_r e61); exact rS .bool e62
    ·
     intro h63q e64; refine kpU [1, 3, 4, 16, 17, 18] [4] [] [] ?_; refine AW.skip (seq (r0U hC [1, 16, 17, 18, 45] [4] [(45, .bool (bif (decide (0 < (v18 : Int))) then (decide (0 < (icompareRows (getD (Tab.Rows t) (Int.toNat ((v18 : Int) - 1)) []) (getD (Tab.Rows t) v18 [])))) else false))] [] [(((decide (0 < (v18 : Int))) = true) → (((decide (0 < (v18 : Int))) = true))), (((decide (0 < (v18 : Int))) = true) → (((decide (0 < (v18 : Int))) = true))), (((decide (0 < (v18 : Int))) = true) → (-9223372036854775808 ≤ ((v18 : Int) - 1) ∧ ((v18 : Int) - 1) ≤ 9223372036854775807)), (((decide (0 < (v18 : Int))) = true) → (((decide (0 < (v18 : Int))) = true))), (((decide (0 < (v18 : Int))) = true) → (((decide (0 < (v18 : Int))) = true))), (((decide (0 < (v18 : Int))) = true) → (0 ≤ ((v18 : Int) - 1) ∧ ((v18 : Int) - 1) < (length (Tab.Rows t) : Int))), (((decide (0 < (v18 : Int))) = true) → (((decide (0 < (v18 : Int))) = true))), (((decide (0 < (v18 : Int))) = true) → (((decide (0 < (v18 : Int))) = true))), (((decide (0 < (v18 : Int))) = true) → (((decide (0 < (v18 : Int))) = true))), (((decide (0 < (v18 : Int))) = true) → (True)), (((decide (0 < (v18 : Int))) = true) → (((decide (0 < (v18 : Int))) = true))), (((decide (0 < (v18 : Int))) = true) → (((decide (0 < (v18 : Int))) = true)))] ?_ ?_))
     ·
      exact ⟨(by intro g65; assumption), (by intro g66; assumption), (by intro g67; omega), (by intro g68; assumption), (by intro g69; assumption), (by intro g70; (have g70p0 : 0 < (v18 : Int) := (of_decide_eq_true g70)); omega), (by intro g71; assumption), (by intro g72; assumption), (by intro g73; assumption), (by intro g74; trivial), (by intro g75; assumption), (by intro g76; assumption), trivial⟩
     refine cdE e64 ?_ ?_
     · intro h77q e78; refine seq (r1 hC [2] [] ⟨[(2, .bool false)], []⟩ ?_); refine ret ?_; have e79 := e8.trans (elim_r e78); exact rS .bool e79
     ·
      intro h80q e81; refine kpU [1, 16, 17, 18] [4] [] [] ?_; refine AW.skip (r0U hC [1, 16, 17, 18] [4] [(18, .int .i64 ((v18 + 1 : Nat) : Int))] [] [(-9223372036854775808 ≤ ((v18 + 1 : Nat) : Int) ∧ ((v18 + 1 : Nat) : Int) ≤ 9223372036854775807)] ?_ ?_)
      ·
       exact ⟨(by omega), trivial⟩
      refine bk (v18 + 1) e81 hk51 ?_ ?_
      · assumption
      · omega
   · intro h82q e83; refine kp [] [] ⟨[], []⟩ ?_; refine exit ?_; refine meet () (by kernel_rfl) ⟨?_, e83⟩; assumption
  · intro x hJ0 e84; have e85 := e8.trans (elim_l e84); refine seq (r1 hC [2] [] ⟨[(2, .bool true)], []⟩ ?_); exact ret (rS .bool e85)

def validTable_l0 (t : Tab) : Nat → Nat → Unit ⊕ Bool
 | 0, i => .inl ()
 | k + 1, i => (bif (decide ((i : Int) < (length (Tab.Rows t) : Int))) then (bif (bif (bif (!(validRow (getD (Tab.Rows t) i []))) then true else ((length (getD (Tab.Rows t) i []) : Int) != (Tab.Width t))) then true else (bif (decide (0 < (i : Int))) then (decide (0 < (compareRows (getD (Tab.Rows t) (Int.toNat ((i : Int) - 1)) []) (getD (Tab.Rows t) i [])))) else false)) then (.inr false) else (validTable_l0 t k (i + 1))) else (.inl ()))

def validTable (t : Tab) : Bool := (Sum.elim (fun _ => (bif (inRange (Tab.Width t) 1 6) then (decide ((length (Tab.Rows t) : Int) ≤ 400)) else false)) (fun r => r) (validTable_l0 t ((length (Tab.Rows t)) - 0 + 1) 0))

def validTable_sp : FnSpec := mkSpec [.val (.named 2)] [.val .bool] (fun (t : Tab) => True) (fun (t : Tab) => [⟨.bool, (validTable t)⟩])

theorem validTable_ok : FnOK Try.prog 77 validTable_sp := by
 have hC : CtxOK Try.prog (mkCtx tyL [(64, inRange_sp), (65, validRow_sp), (106, compareRows_sp)]) := CtxOK.cons inRange_ok (CtxOK.cons validRow_ok (CtxOK.cons compareRows_ok (CtxOK.nil tyOK))); have hM : Try.prog.follows .mixedOrders = true := Try.checked.mixed; refine FnOK.of_body Try.func77 (by kernel_rfl) rfl (C := (mkCtx tyL [(64, inRange_sp), (65, validRow_sp), (106, compareRows_sp)])) hC.ty (by kernel_rfl) ?_; intro (t : Tab) hwf hpre E; have hpre : True := hpre; have hw_t : Wf ⟨(.named 2), (t : Tab)⟩ := hwf _ (List.Mem.head _); have hr_t_Width : -9223372036854775808 ≤ Tab.Width t ∧ Tab.Width t ≤ 9223372036854775807 := (hw_t.field (tv := ⟨(.int .i64), Tab.Width t⟩) (List.Mem.head _)).int_inv; have hl_t_Rows : (length (Tab.Rows t) : Int) ≤ 9223372036854775807 := (hw_t.field (tv := ⟨(.slice (.slice (.named 1))), Tab.Rows t⟩) (List.Mem.tail _ (List.Mem.head _))).len; have e0 : validTable t = validTable t := rfl; refine seq (r1 hC [1] [4] ⟨[(1, .ref 4 1 0)], [(4, .box 1 [.int .i64 (Tab.Width t), .data (.slice (.slice (.named 1))) ((Tab.Rows t) : List (List Val))])]⟩ ?_); refine seq (seq (r1U hC [1, 3] [4] [(3, .int .i64 0)] [] ?_)); refine lpB (ζ := Unit) (fun x => ⟨[(1, .ref 4 1 0)], [(4, .box 1 [.int .i64 (Tab.Width t), .data (.slice (.slice (.named 1))) ((Tab.Rows t) : List (List Val))])]⟩) (fun x => True) (fun x => (.inl ())) (α := Nat) (fun x => ⟨[(1, .ref 4 1 0), (3, .int .i64 (x : Int))], [(4, .box 1 [.int .i64 (Tab.Width t), .data (.slice (.slice (.named 1))) ((Tab.Rows t) : List (List Val))])]⟩) (fun x => True) (fun x => (length (Tab.Rows t)) - x) (fun k x => validTable_l0 t k x) 0 (by kernel_rfl) ?_ ?_ ?_
 · exact trivial
 ·
  intro i k30q hI0 hk28 e29; refine seq (seq (r1U hC [1, 3, 8] [4] [(8, .bool (decide ((i : Int) < (length (Tab.Rows t) : Int))))] [] ?_)); refine cdE e29 ?_ ?_
  ·
   intro h31q e32; refine kpU [1, 3] [4] [] [] ?_; refine AW.skip (seq (block (seq (d0U hC hM [1, 3, 47] [4] [(47, .bool (bif (bif (!(validRow (getD (Tab.Rows t) i []))) then true else ((length (getD (Tab.Rows t) i []) : Int) != (Tab.Width t))) then true else (bif (decide (0 < (i : Int))) then (decide (0 < (compareRows (getD (Tab.Rows t) (Int.toNat ((i : Int) - 1)) []) (getD (Tab.Rows t) i [])))) else false)))] [] [(0 ≤ (i : Int) ∧ (i : Int) < (length (Tab.Rows t) : Int)), (True), (((!(validRow (getD (Tab.Rows t) i []))) = false) → (((!(validRow (getD (Tab.Rows t) i []))) = false))), (((!(validRow (getD (Tab.Rows t) i []))) = false) → (((!(validRow (getD (Tab.Rows t) i []))) = false))), (((!(validRow (getD (Tab.Rows t) i []))) = false) → (((!(validRow (getD (Tab.Rows t) i []))) = false))), (((!(validRow (getD (Tab.Rows t) i []))) = false) → (0 ≤ (i : Int) ∧ (i : Int) < (length (Tab.Rows t) : Int))), (((!(validRow (getD (Tab.Rows t) i []))) = false) → (((!(validRow (getD (Tab.Rows t) i []))) = false))), (((!(validRow (getD (Tab.Rows t) i []))) = false) → (((!(validRow (getD (Tab.Rows t) i []))) = false))), (((!(validRow (getD (Tab.Rows t) i []))) = false) → (((!(validRow (getD (Tab.Rows t) i []))) = false))), (((!(validRow (getD (Tab.Rows t) i []))) = false) → (((!(validRow (getD (Tab.Rows t) i []))) = false))), (((!(validRow (getD (Tab.Rows t) i []))) = false) → (((!(validRow (getD (Tab.Rows t) i []))) = false))), (((!(validRow (getD (Tab.Rows t) i []))) = false) → (((!(validRow (getD (Tab.Rows t) i []))) = false))), (((bif (!(validRow (getD (Tab.Rows t) i []))) then true else ((length (getD (Tab.Rows t) i []) : Int) != (Tab.Width t))) = false) → (((bif (!(validRow (getD (Tab.Rows t) i []))) then true else ((length (getD (Tab.Rows t) i []) : Int) != (Tab.Width t))) = false))), (((bif (!(validRow (getD (Tab.Rows t) i []))) then true else ((length (getD (Tab.Rows t) i []) : Int) != (Tab.Width t))) = false) → (((bif (!(validRow (getD (Tab.Rows t) i []))) then true else ((length (getD (Tab.Rows t) i []) : Int) != (Tab.Width t))) = false))), ((((bif (!(validRow (getD (Tab.Rows t) i []))) then true else ((length (getD (Tab.Rows t) i []) : Int) != (Tab.Width t))) = false) ∧ ((decide (0 < (i : Int))) = true)) → ((((bif (!(validRow (getD (Tab.Rows t) i []))) then true else ((length (getD (Tab.Rows t) i []) : Int) != (Tab.Width t))) = false) ∧ ((decide (0 < (i : Int))) = true)))), ((((bif (!(validRow (getD (Tab.Rows t) i []))) then true else ((length (getD (Tab.Rows t) i []) : Int) != (Tab.Width t))) = false) ∧ ((decide (0 < (i : Int))) = true)) → ((((bif (!(validRow (getD (Tab.Rows t) i []))) then true else ((length (getD (Tab.Rows t) i []) : Int) != (Tab.Width t))) = false) ∧ ((decide (0 < (i : Int))) = true)))), ((((bif (!(validRow (getD (Tab.Rows t) i []))) then true else ((length (getD (Tab.Rows t) i []) : Int) != (Tab.Width t))) = false) ∧ ((decide (0 < (i : Int))) = true)) → (-9223372036854775808 ≤ ((i : Int) - 1) ∧ ((i : Int) - 1) ≤ 9223372036854775807)), ((((bif (!(validRow (getD (Tab.Rows t) i []))) then true else ((length (getD (Tab.Rows t) i []) : Int) != (Tab.Width t))) = false) ∧ ((decide (0 < (i : Int))) = true)) → ((((bif (!(validRow (getD (Tab.Rows t) i []))) then true else ((length (getD (Tab.Rows t) i []) : Int) != (Tab.Width t))) = false) ∧ ((decide (0 < (i : Int))) = true)))), ((((bif (!(validRow (getD (Tab.Rows t) i []))) then true else ((length (getD (Tab.Rows t) i []) : Int) != (Tab.Width t))) = false) ∧ ((decide (0 < (i : Int))) = true)) → ((((bif (!(validRow (getD (Tab.Rows t) i []))) then true else ((length (getD (Tab.Rows t) i []) : Int) != (Tab.Width t))) = false) ∧ ((decide (0 < (i : Int))) = true)))), ((((bif (!(validRow (getD (Tab.Rows t) i []))) then true else ((length (getD (Tab.Rows t) i []) : Int) != (Tab.Width t))) = false) ∧ ((decide (0 < (i : Int))) = true)) → (0 ≤ ((i : Int) - 1) ∧ ((i : Int) - 1) < (length (Tab.Rows t) : Int))), ((((bif (!(validRow (getD (Tab.Rows t) i []))) then true else ((length (getD (Tab.Rows t) i []) : Int) != (Tab.Width t))) = false) ∧ ((decide (0 < (i : Int))) = true)) → ((((bif (!(validRow (getD (Tab.Rows t) i []))) then true else ((length (getD (Tab.Rows t) i []) : Int) != (Tab.Width t))) = false) ∧ ((decide (0 < (i : Int))) = true)))), ((((bif (!(validRow (getD (Tab.Rows t) i []))) then true else ((length (getD (Tab.Rows t) i []) : Int) != (Tab.Width t))) = false) ∧ ((decide (0 < (i : Int))) = true)) → ((((bif (!(validRow (getD (Tab.Rows t) i []))) then true else ((length (getD (Tab.Rows t) i []) : Int) != (Tab.Width t))) = false) ∧ ((decide (0 < (i : Int))) = true)))), ((((bif (!(validRow (getD (Tab.Rows t) i []))) then true else ((length (getD (Tab.Rows t) i []) : Int) != (Tab.Width t))) = false) ∧ ((decide (0 < (i : Int))) = true)) → ((((bif (!(validRow (getD (Tab.Rows t) i []))) then true else ((length (getD (Tab.Rows t) i []) : Int) != (Tab.Width t))) = false) ∧ ((decide (0 < (i : Int))) = true)))), ((((bif (!(validRow (getD (Tab.Rows t) i []))) then true else ((length (getD (Tab.Rows t) i []) : Int) != (Tab.Width t))) = false) ∧ ((decide (0 < (i : Int))) = true)) → ((((bif (!(validRow (getD (Tab.Rows t) i []))) then true else ((length (getD (Tab.Rows t) i []) : Int) != (Tab.Width t))) = false) ∧ ((decide (0 < (i : Int))) = true)))), ((((bif (!(validRow (getD (Tab.Rows t) i []))) then true else ((length (getD (Tab.Rows t) i []) : Int) != (Tab.Width t))) = false) ∧ ((decide (0 < (i : Int))) = true)) → (0 ≤ (i : Int) ∧ (i : Int) < (length (Tab.Rows t) : Int))), ((((bif (!(validRow (getD (Tab.Rows t) i []))) then true else ((length (getD (Tab.Rows t) i []) : Int) != (Tab.Width t))) = false) ∧ ((decide (0 < (i : Int))) = true)) → ((((bif (!(validRow (getD (Tab.Rows t) i []))) then true else ((length (getD (Tab.Rows t) i []) : Int) != (Tab.Width t))) = false) ∧ ((decide (0 < (i : Int))) = true)))), ((((bif (!(validRow (getD (Tab.Rows t) i []))) then true else ((length (getD (Tab.Rows t) i []) : Int) != (Tab.Width t))) = false) ∧ ((decide (0 < (i : Int))) = true)) → ((((bif (!(validRow (getD (Tab.Rows t) i []))) then true else ((length (getD (Tab.Rows t) i []) : Int) != (Tab.Width t))) = false) ∧ ((decide (0 < (i : Int))) = true)))), ((((bif (!(validRow (getD (Tab.Rows t) i []))) then true else ((length (getD (Tab.Rows t) i []) : Int) != (Tab.Width t))) = false) ∧ ((decide (0 < (i : Int))) = true)) → ((((bif (!(validRow (getD (Tab.Rows t) i []))) then true else ((length (getD (Tab.Rows t) i []) : Int) != (Tab.Width t))) = false) ∧ ((decide (0 < (i : Int))) = true)))), ((((bif (!(validRow (getD (Tab.Rows t) i []))) then true else ((length (getD (Tab.Rows t) i []) : Int) != (Tab.Width t))) = false) ∧ ((decide (0 < (i : Int))) = true)) → (True)), ((((bif (!(validRow (getD (Tab.Rows t) i []))) then true else ((length (getD (Tab.Rows t) i []) : Int) != (Tab.Width t))) = false) ∧ ((decide (0 < (i : Int))) = true)) → ((((bif (!(validRow (getD (Tab.Rows t) i []))) then true else ((length (getD (Tab.Rows t) i []) : Int) != (Tab.Width t))) = false) ∧ ((decide (0 < (i : Int))) = true)))), (((bif (!(validRow (getD (Tab.Rows t) i []))) then true else ((length (getD (Tab.Rows t) i []) : Int) != (Tab.Width t))) = false) → (((bif (!(validRow (getD (Tab.Rows t) i []))) then true else ((length (getD (Tab.Rows t) i []) : Int) != (Tab.Width t))) = false))), (((bif (!(validRow (getD (Tab.Rows t) i []))) then true else ((length (getD (Tab.Rows t) i []) : Int) != (Tab.Width t))) = false) → (((decide (0 < (i : Int))) = true) → ((((bif (!(validRow (getD (Tab.Rows t) i []))) then true else ((length (getD (Tab.Rows t) i []) : Int) != (Tab.Width t))) = false) ∧ ((decide (0 < (i : Int))) = true))))), (((bif (!(validRow (getD (Tab.Rows t) i []))) then true else ((length (getD (Tab.Rows t) i []) : Int) != (Tab.Width t))) = false) → (((bif (!(validRow (getD (Tab.Rows t) i []))) then true else ((length (getD (Tab.Rows t) i []) : Int) != (Tab.Width t))) = false)))] ?_ ?_))))
   ·
    exact ⟨(by omega), trivial, (by intro g33; assumption), (by intro g34; assumption), (by intro g35; assumption), (by intro g36; omega), (by intro g37; assumption), (by intro g38; assumption), (by intro g39; assumption), (by intro g40; assumption), (by intro g41; assumption), (by intro g42; assumption), (by intro g43; assumption), (by intro g44; assumption), (by intro g45; assumption), (by intro g46; assumption), (by intro g47; omega), (by intro g48; assumption), (by intro g49; assumption), (by intro g50; (have g50p0 : ((validRow (getD (Tab.Rows t) i [])) = true) ∧ ((length (getD (Tab.Rows t) i []) : Int) = (Tab.Width t)) := (And.imp (fun h => (not_neg h)) (fun h => (bne_neg h)) (or_neg (g50).1))); (have g50p1 : 0 < (i : Int) := (of_decide_eq_true (g50).2)); omega), (by intro g51; assumption), (by intro g52; assumption), (by intro g53; assumption), (by intro g54; assumption), (by intro g55; omega), (by intro g56; assumption), (by intro g57; assumption), (by intro g58; assumption), (by intro g59; trivial), (by intro g60; assumption), (by intro g61; assumption), (by intro g62; intro g63; exact ⟨by assumption, by assumption⟩), (by intro g64; assumption), trivial⟩
   refine cdE e32 ?_ ?_
   · intro h65q e66; refine seq (r1 hC [2] [] ⟨[(2, .bool false)], []⟩ ?_); refine ret ?_; have e67 := e0.trans (elim_r e66); exact rS .bool e67
   ·
    intro h68q e69; refine kpU [1, 3] [4] [] [] ?_; refine AW.skip (r0U hC [1, 3] [4] [(3, .int .i64 ((i + 1 : Nat) : Int))] [] [(-9223372036854775808 ≤ ((i + 1 : Nat) : Int) ∧ ((i + 1 : Nat) : Int) ≤ 9223372036854775807)] ?_ ?_)
    ·
     exact ⟨(by omega), trivial⟩
    refine bk (i + 1) e69 hk28 ?_ ?_
    · assumption
    · omega
  · intro h70q e71; refine kpU [1] [4] [] [] ?_; refine exit ?_; refine meet () (by kernel_rfl) ⟨?_, e71⟩; assumption
 ·
  intro x hJ0 e72; have e73 := e0.trans (elim_l e72); refine seq (r0 hC [2] [] ⟨[(2, .bool (bif (inRange (Tab.Width t) 1 6) then (decide ((length (Tab.Rows t) : Int) ≤ 400)) else false))], []⟩ [(True), (((inRange (Tab.Width t) 1 6) = true) → (((inRange (Tab.Width t) 1 6) = true))), (((inRange (Tab.Width t) 1 6) = true) → (((inRange (Tab.Width t) 1 6) = true))), (((inRange (Tab.Width t) 1 6) = true) → (((inRange (Tab.Width t) 1 6) = true))), (((inRange (Tab.Width t) 1 6) = true) → (((inRange (Tab.Width t) 1 6) = true)))] ?_ ?_)
  ·
   exact ⟨trivial, (by intro g74; assumption), (by intro g75; assumption), (by intro g76; assumption), (by intro g77; assumption), trivial⟩
  exact ret (rS .bool e73)

end
end Go.Proofs.Ytjcjpeckfikfkaa
