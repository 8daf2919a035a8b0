/-
  A part of the proof of this claim (Ap8): what functions of the program compute, and plain facts of that. No conditions.
-/
import Derived.Test.YtodcdgolcbdkgaaAp3
set_option linter.all false
namespace Go.Proofs.Ytodcdgolcbdkgaa
open Go Go.Am
open Go.Am.AW (seq r1U ret kpU cdE r0U r1 meet rI block rB rS bk exit lpB kp d0U)
open List (length getD set replicate)
noncomputable section

def toValue (a : Val) : Val := a

def toValue_sp : FnSpec := mkSpec [.val (.named 0)] [.val (.named 0)] (fun (a : Val) => True) (fun (a : Val) => [⟨(.named 0), (toValue a)⟩])

theorem toValue_ok : FnOK Try.prog 98 toValue_sp := by
 have hC : CtxOK Try.prog (mkCtx tyL []) := CtxOK.nil tyOK; refine FnOK.of_body Try.func98 (by kernel_rfl) rfl (C := (mkCtx tyL [])) hC.ty (by kernel_rfl) ?_; intro (a : Val) hwf hpre E; have hw_a : Wf ⟨(.named 0), (a : Val)⟩ := hwf _ (List.Mem.head _); have hr_a_N := Val.wfl hw_a; have e0 : toValue a = toValue a := rfl; refine seq (r1 hC [1, 2] [4, 8] ⟨[(1, .ref 4 1 0), (2, .ref 8 1 0)], [(4, .box 1 [sB (Val.Null a), sI (Val.N a)]), (8, .box 1 [sB false, sI 0])]⟩ ?_); refine seq (r1U hC [1, 2, 3] [4, 8, 12] [(3, .ref 12 1 0)] [(12, .box 1 [sB false, sI 0])] ?_); refine seq (r1U hC [1, 2, 3] [4, 8, 12] [] [(12, .box 1 [sB (Val.Null a), sI 0])] ?_); refine seq (r1U hC [2, 3] [8, 12] [] [(12, .box 1 [sB (Val.Null a), sI (Val.N a)])] ?_); refine seq (r1U hC [2] [8] [] [(8, .box 1 [sB (Val.Null a), sI (Val.N a)])] ?_); exact ret (rS (.named 0) e0)

def eqValue (a : Val) (b : Val) : Bool := (bif ((Val.Null a) != (Val.Null b)) then false else (bif ((Val.N a) != (Val.N b)) then false else true))

def eqValue_sp : FnSpec := mkSpec [.val (.named 0), .val (.named 0)] [.val .bool] (fun (a : Val) (b : Val) => True) (fun (a : Val) (b : Val) => [⟨.bool, (eqValue a b)⟩])

theorem eqValue_ok : FnOK Try.prog 101 eqValue_sp := by
 have hC : CtxOK Try.prog (mkCtx tyL []) := CtxOK.nil tyOK; refine FnOK.of_body Try.func101 (by kernel_rfl) rfl (C := (mkCtx tyL [])) hC.ty (by kernel_rfl) ?_; intro (a : Val) (b : Val) hwf hpre E; have hw_a : Wf ⟨(.named 0), (a : Val)⟩ := hwf _ (List.Mem.head _); have hr_a_N := Val.wfl hw_a; have hw_b : Wf ⟨(.named 0), (b : Val)⟩ := hwf _ (List.Mem.tail _ (List.Mem.head _)); have hr_b_N := Val.wfl hw_b; have e0 : eqValue a b = eqValue a b := rfl; refine seq (r1 hC [2, 3] [8, 12] ⟨[(2, .ref 8 1 0), (3, .ref 12 1 0)], [(8, .box 1 [sB (Val.Null a), sI (Val.N a)]), (12, .box 1 [sB (Val.Null b), sI (Val.N b)])]⟩ ?_); refine seq (seq (r1U hC [2, 3, 9] [8, 12] [(9, sB ((Val.Null a) != (Val.Null b)))] [] ?_)); refine cdE e0 ?_ ?_
 · intro h1q e2; refine seq (r1 hC [4] [] ⟨[(4, sB false)], []⟩ ?_); exact ret (rB _ e2)
 ·
  intro h3q e4; refine kpU [2, 3] [8, 12] [] [] ?_; refine AW.skip (seq (seq (r1 hC [14] [] ⟨[(14, sB ((Val.N a) != (Val.N b)))], []⟩ ?_))); refine cdE e4 ?_ ?_
  · intro h5q e6; refine seq (r1 hC [4] [] ⟨[(4, sB false)], []⟩ ?_); exact ret (rB _ e6)
  · intro h7q e8; refine kp [] [] ⟨[], []⟩ ?_; refine AW.skip (seq (r1 hC [4] [] ⟨[(4, sB true)], []⟩ ?_)); exact ret (rB _ e8)

def szExpr_l0 (self : Xpr → Int → Int) (a : Xpr) : Nat → Int → Nat → Int ⊕ Int
 | 0, left1, i => .inl left1
 | k + 1, left1, i => (bif (decide ((i : Int) < (length (Xpr.Kids a) : Int))) then (bif (decide ((self (getD (Xpr.Kids a) i Xpr.zero) left1) < 0)) then (.inr (-1)) else (szExpr_l0 self a k (self (getD (Xpr.Kids a) i Xpr.zero) left1) (i + 1))) else (.inl left1))

def szExpr_c0 (self : Xpr → Int → Int) (a : Xpr) (left : Int) : Int :=
 (bif (decide ((left - (length (Xpr.Kids a) : Int)) < 0)) then (-1) else (Sum.elim (fun z => (fun (left1 : Int) => left1) z) (fun r => r) (szExpr_l0 self a ((length (Xpr.Kids a)) - 0 + 1) (left - (length (Xpr.Kids a) : Int)) 0)))

def szExpr_r : Nat → Xpr → Int → Int
 | 0, a, left => 0
 | fuel + 1, a, left => (andThen (szExpr_c0 (szExpr_r fuel) a left) (fun z => (fun (v8 : Int) => (bif (decide (v8 < 0)) then (-1) else v8)) z))

def szExpr (a : Xpr) (left : Int) : Int := szExpr_r (SizeOf.sizeOf a + 1) a left

def szExpr_spn (fuel : Nat) : FnSpec := mkSpec [.val (.named 1), .val (.int .i64)] [.val (.int .i64)] (fun (a : Xpr) (left : Int) => (0 ≤ left) ∧ SizeOf.sizeOf a < fuel) (fun (a : Xpr) (left : Int) => [⟨(.int .i64), (szExpr_r fuel a left)⟩])

def szExpr_sp : FnSpec := mkSpec [.val (.named 1), .val (.int .i64)] [.val (.int .i64)] (fun (a : Xpr) (left : Int) => 0 ≤ left) (fun (a : Xpr) (left : Int) => [⟨(.int .i64), (szExpr a left)⟩])

theorem szExpr_okn (fuel : Nat) : FnOK Try.prog 55 (szExpr_spn fuel) := by
 induction fuel with
 | zero => exact FnOK.never Try.func55 (by kernel_rfl) rfl (fun _ _ h => absurd h.2 (Nat.not_lt_zero _))
 | succ fuel ih => ?_
 have hC : CtxOK Try.prog (mkCtx tyL [(55, (szExpr_spn fuel))]) := CtxOK.cons ih (CtxOK.nil tyOK); have hC1 := hC.rebase 1000; refine FnOK.of_body Try.func55 (by kernel_rfl) rfl (C := (mkCtx tyL [(55, (szExpr_spn fuel))])) hC.ty (by kernel_rfl) ?_; intro (a : Xpr) (left : Int) hwf hpre E; have hpre : (0 ≤ left) ∧ SizeOf.sizeOf a < fuel + 1 := hpre; have hw_a : Wf ⟨(.named 1), (a : Xpr)⟩ := hwf _ (List.Mem.head _); obtain ⟨hr_a_Kind, hr_a_Col, hl_a_Kids⟩ := Xpr.wfl hw_a; have hw_left : Wf ⟨(.int .i64), (left : Int)⟩ := hwf _ (List.Mem.tail _ (List.Mem.head _)); have hr_left : -9223372036854775808 ≤ left ∧ left ≤ 9223372036854775807 := hw_left.int_inv; have e0 : szExpr_r (fuel + 1) a left = szExpr_r (fuel + 1) a left := rfl; refine seq (r1U hC [1, 2] [8] [(2, .ref 8 1 0)] [(8, .box 1 [sI (Xpr.Kind a), sI (Xpr.Col a), sB (Val.Null (Xpr.V a)), sI (Val.N (Xpr.V a)), sD9 (Xpr.Kids a)])] ?_); refine seq (AW.regionO [0, 1, 2, 3, 4] (by rfl) ?_)
 refine AWO.run hC false [] [0, 1, 2] [3, 4] [6, 7] []
  ⟨[(6, sD9 (Xpr.Kids a)), (7, sI left)], []⟩
  [] (by rfl) (by kernel_rfl) ?_ ?_
 · exact trivial
 refine AWO.callJ hC.ty [8] [] (α := Int) (fun x => ⟨[(8, sI x)], []⟩) (fun x => (True) ∧ (szExpr_c0 (szExpr_r fuel) a left) = x) (vs := [sD9 (Xpr.Kids a), sI left]) (caps := []) (by rfl) rfl (.inl rfl) (by decide) (by kernel_rfl) (by kernel_rfl) Try.func66 (by kernel_rfl) rfl (by kernel_rfl) ?_ ?_
 ·
  intro o1 ho1; have e95 : (szExpr_c0 (szExpr_r fuel) a left) = (szExpr_c0 (szExpr_r fuel) a left) := rfl; refine kpU [0, 1] [] [] [] ?_; refine seq (r1U hC1 [0, 1] [] [] [] ?_); refine seq (r0U hC1 [0, 1] [] [(1, sI (left - (length (Xpr.Kids a) : Int)))] [] [R64 (left - (length (Xpr.Kids a) : Int))] ?_ ?_)
  ·
   exact ⟨R64.of (by omega), trivial⟩
  refine seq (seq (r1U hC1 [0, 1, 11] [] [(11, sB (decide ((left - (length (Xpr.Kids a) : Int)) < 0)))] [] ?_)); refine cdE e95 ?_ ?_
  · intro h96q e97; refine seq (r1 hC1 [4] [] ⟨[(4, sI (-1))], []⟩ ?_); refine ret ?_; refine ⟨(-1), [sI (-1)], by kernel_rfl, by kernel_rfl, ?_, e97⟩; exact trivial
  ·
   intro h98q e99; refine kpU [0, 1] [] [] [] ?_; refine AW.skip (seq (seq (r1U hC1 [0, 1, 5] [] [(5, sI 0)] [] ?_))); refine lpB (ζ := Int) (fun x => ⟨[(1, sI x)], []⟩) (fun x => 0 ≤ x) (fun x => (.inl x)) (α := Int × Nat) (fun x => ⟨[(0, sD9 (Xpr.Kids a)), (1, sI x.1), (5, sI ((x.2 : Nat) : Int))], []⟩) (fun x => 0 ≤ x.1) (fun x => (length (Xpr.Kids a)) - x.2) (fun k x => szExpr_l0 (szExpr_r fuel) a k x.1 x.2) ((left - (length (Xpr.Kids a) : Int)), 0) (by kernel_rfl) ?_ ?_ ?_
   · omega
   ·
    intro x k132q hI0 hk130 e131; obtain ⟨left1, i⟩ := x; dsimp only at e131; refine seq (seq (r1U hC1 [0, 1, 5, 15] [] [(15, sB (decide ((i : Int) < (length (Xpr.Kids a) : Int))))] [] ?_)); refine cdE e131 ?_ ?_
    ·
     intro h133q e134; refine kpU [0, 1, 5] [] [] [] ?_; refine AW.skip (seq (block (seq (r0U hC1 [0, 1, 5] [] [(1, sI ((szExpr_r fuel) (getD (Xpr.Kids a) i Xpr.zero) left1))] [] [IX (i : Int) (length (Xpr.Kids a) : Int), ((0 ≤ left1) ∧ SizeOf.sizeOf (getD (Xpr.Kids a) i Xpr.zero) < fuel)] ?_ ?_))))
     ·
      exact ⟨IX.of (by omega), (⟨by omega, Nat.lt_of_lt_of_le (kid_lt (by omega)) (Nat.le_of_lt_succ hpre.2)⟩), trivial⟩
     refine seq (AW.wf_int (s := 1) (k := .i64) (n := ((szExpr_r fuel) (getD (Xpr.Kids a) i Xpr.zero) left1)) (by kernel_rfl) fun hw135 => ?_); replace hw135 : -9223372036854775808 ≤ ((szExpr_r fuel) (getD (Xpr.Kids a) i Xpr.zero) left1) ∧ ((szExpr_r fuel) (getD (Xpr.Kids a) i Xpr.zero) left1) ≤ 9223372036854775807 := hw135; refine r1U hC1 [0, 1, 5, 25] [] [(25, sB (decide (((szExpr_r fuel) (getD (Xpr.Kids a) i Xpr.zero) left1) < 0)))] [] ?_; refine cdE e134 ?_ ?_
     · intro h136q e137; refine seq (r1 hC1 [4] [] ⟨[(4, sI (-1))], []⟩ ?_); refine ret ?_; have e138 := e99.trans (elim_r e137); refine ⟨(-1), [sI (-1)], by kernel_rfl, by kernel_rfl, ?_, e138⟩; exact trivial
     ·
      intro h139q e140; refine kpU [0, 1, 5] [] [] [] ?_; refine AW.skip (r0U hC1 [0, 1, 5] [] [(5, sI ((i + 1 : Nat) : Int))] [] [R64 ((i + 1 : Nat) : Int)] ?_ ?_)
      ·
       exact ⟨R64.of (by omega), trivial⟩
      refine bk (((szExpr_r fuel) (getD (Xpr.Kids a) i Xpr.zero) left1), i + 1) e140 hk130 ?_ ?_
      · omega
      · omega
    · intro h141q e142; refine kpU [1] [] [] [] ?_; refine exit ?_; refine meet left1 (by kernel_rfl) ⟨?_, e142⟩; assumption
   · intro left1 hJ0 e143; have e144 := e99.trans (elim_l e143); dsimp only at e144; refine seq (r1 hC1 [4] [] ⟨[(4, sI left1)], []⟩ ?_); refine ret ?_; refine ⟨left1, [sI left1], by kernel_rfl, by kernel_rfl, ?_, e144⟩; exact trivial
 ·
  intro v8 hR; obtain ⟨hK0, e145⟩ := hR; have e146 := e0.trans (then_eq e145); dsimp only at e146
  refine AWO.run hC false [] [4] [] [1] []
   ⟨[(1, sI v8)], []⟩
   [] (by rfl) (by kernel_rfl) ?_ ?_
  · exact trivial
  refine AWO.nil ?_; refine seq (seq (r1U hC [1, 10] [] [(10, sB (decide (v8 < 0)))] [] ?_)); refine cdE e146 ?_ ?_
  · intro h147q e148; refine seq (r1 hC [4] [] ⟨[(4, sI (-1))], []⟩ ?_); exact ret (rI _ e148)
  · intro h149q e150; refine kpU [1] [] [] [] ?_; refine AW.skip (seq (r1 hC [4] [] ⟨[(4, sI v8)], []⟩ ?_)); exact ret (rI _ e150)

theorem szExpr_fu : AllTV (szExpr_sp.ps.map PK.ty) (fun tvs => szExpr_sp.pre tvs → ∃ k, (szExpr_spn k).pre tvs ∧ (szExpr_spn k).fn tvs = szExpr_sp.fn tvs ∧ (szExpr_spn k).bx tvs = szExpr_sp.bx tvs) :=
 (fun (a : Xpr) (left : Int) h => ⟨SizeOf.sizeOf a + 1, (show (0 ≤ left) ∧ SizeOf.sizeOf a < SizeOf.sizeOf a + 1 from ⟨h, Nat.lt_succ_self _⟩), (show (szExpr_spn (SizeOf.sizeOf a + 1)).fn [⟨(.named 1), (a : Xpr)⟩, ⟨(.int .i64), (left : Int)⟩] = ([⟨(.int .i64), (szExpr_r (SizeOf.sizeOf a + 1) a left)⟩] : List TV) from by kernel_rfl).trans (show ([⟨(.int .i64), (szExpr_r (SizeOf.sizeOf a + 1) a left)⟩] : List TV) = szExpr_sp.fn [⟨(.named 1), (a : Xpr)⟩, ⟨(.int .i64), (left : Int)⟩] from by kernel_rfl), by kernel_rfl⟩)

theorem szExpr_ok : FnOK Try.prog 55 szExpr_sp := FnOK.of_fuel szExpr_okn (fun _ => rfl) (fun _ => rfl) (AllTV.get szExpr_fu)

theorem sz_le : ∀ (f : Nat) (t : Xpr) (l : Int), 0 ≤ l → szExpr_r f t l ≤ l := by
 intro f
 induction f with
 | zero => intro t l h; exact h
 | succ f ih =>
  intro t l h
  have hl : ∀ (k : Nat) (left : Int) (i : Nat), 0 ≤ left → left ≤ l → Sum.elim (fun z => z) (fun r => r) (szExpr_l0 (szExpr_r f) t k left i) ≤ l := by
   intro k
   induction k with
   | zero => intro left i _ h2; exact h2
   | succ k ihk =>
    intro left i h1 h2; unfold szExpr_l0
    cases decide ((i : Int) < (length (Xpr.Kids t) : Int)) with
    | false => exact h2
    | true =>
     simp only [cond_true]; by_cases hn : szExpr_r f (getD (Xpr.Kids t) i Xpr.zero) left < 0
     · rw [decide_eq_true hn]; simp only [cond_true, Sum.elim_inr]; omega
     · rw [decide_eq_false hn, cond_false]; have := ih (getD (Xpr.Kids t) i Xpr.zero) left h1; exact ihk _ _ (by omega) (by omega)
  have hc : szExpr_c0 (szExpr_r f) t l ≤ l := by
   unfold szExpr_c0; by_cases hn : l - (length (Xpr.Kids t) : Int) < 0
   · rw [decide_eq_true hn, cond_true]; omega
   · rw [decide_eq_false hn, cond_false]; exact hl _ _ _ (by omega) (by omega)
  simp only [szExpr_r, andThen]; by_cases hn : szExpr_c0 (szExpr_r f) t l < 0
  · rw [decide_eq_true hn, cond_true]; omega
  · rw [decide_eq_false hn, cond_false]; exact hc

def Fits (a : Xpr) : Prop := ∃ f l, SizeOf.sizeOf a < f ∧ (0 ≤ l ∧ l ≤ 1048576) ∧ 0 ≤ szExpr_r f a l

theorem Fits.of {a : Xpr} {l : Int} (hl : 0 ≤ l ∧ l ≤ 1048576) (h : ¬ szExpr a l < 0) : Fits a := ⟨SizeOf.sizeOf a + 1, l, Nat.lt_succ_self _, hl, by unfold szExpr at h; omega⟩

theorem Fits.kids {a : Xpr} (h : Fits a) : (length a.Kids : Int) ≤ 1048576 ∧ ∀ i, i < a.Kids.length → Fits (getD a.Kids i Xpr.zero) := by
 obtain ⟨f, l, hf, hl, h0⟩ := h
 cases f with
 | zero => omega
 | succ f =>
  have hc : 0 ≤ szExpr_c0 (szExpr_r f) a l := by
   simp only [szExpr_r, andThen] at h0; by_cases hn : szExpr_c0 (szExpr_r f) a l < 0
   · rw [decide_eq_true hn, cond_true] at h0; omega
   · omega
  unfold szExpr_c0 at hc; by_cases hn : l - (length (Xpr.Kids a) : Int) < 0
  · rw [decide_eq_true hn, cond_true] at hc; omega
  ·
   rw [decide_eq_false hn, cond_false] at hc; refine ⟨by omega, ?_⟩
   have key : ∀ (k : Nat) (left : Int) (i : Nat), a.Kids.length - i < k → 0 ≤ left → left ≤ l → 0 ≤ Sum.elim (fun z => (fun (left1 : Int) => left1) z) (fun r => r) (szExpr_l0 (szExpr_r f) a k left i) →
     ∀ j, i ≤ j → j < a.Kids.length → Fits (getD a.Kids j Xpr.zero) := by
    intro k
    induction k with
    | zero => intro left i hk; omega
    | succ k ihk =>
     intro left i hk h1 h2 h3 j hj hjl; unfold szExpr_l0 at h3; rw [lt_dec (show i < a.Kids.length by omega), cond_true] at h3; by_cases hn : szExpr_r f (getD (Xpr.Kids a) i Xpr.zero) left < 0
     · rw [decide_eq_true hn] at h3; simp only [cond_true, Sum.elim_inr] at h3; exact absurd h3 (by decide)
     ·
      rw [decide_eq_false hn, cond_false] at h3; rcases Nat.eq_or_lt_of_le hj with rfl | hj
      · exact ⟨f, left, Nat.lt_of_lt_of_le (kid_lt hjl) (Nat.le_of_lt_succ hf), ⟨h1, by omega⟩, by omega⟩
      · have := sz_le f (getD (Xpr.Kids a) i Xpr.zero) left h1; exact ihk _ _ (by omega) (by omega) (by omega) h3 j hj hjl
   exact fun i hi => key _ _ 0 (by omega) (by omega) (by omega) hc i (Nat.zero_le _) hi

def eqExpr_l0 (self : Xpr → Xpr → Bool) (a : Xpr) (b : Xpr) : Nat → Nat → Unit ⊕ Bool
 | 0, i => .inl ()
 | k + 1, i => (bif (decide ((i : Int) < (length (Xpr.Kids a) : Int))) then (bif (!(self (getD (Xpr.Kids a) i Xpr.zero) (getD (Xpr.Kids b) i Xpr.zero))) then (.inr false) else (eqExpr_l0 self a b k (i + 1))) else (.inl ()))

def eqExpr_c0 (self : Xpr → Xpr → Bool) (a : Xpr) (b : Xpr) : Bool :=
 (bif ((length (Xpr.Kids a) : Int) != (length (Xpr.Kids b) : Int)) then false else (Sum.elim (fun _ => true) (fun r => r) (eqExpr_l0 self a b ((length (Xpr.Kids a)) - 0 + 1) 0)))

def eqExpr_r : Nat → Xpr → Xpr → Bool
 | 0, a, b => false
 | fuel + 1, a, b => (bif ((Xpr.Kind a) != (Xpr.Kind b)) then false else (bif ((Xpr.Col a) != (Xpr.Col b)) then false else (bif (!(eqValue (Xpr.V a) (Xpr.V b))) then false else (andThen (eqExpr_c0 (eqExpr_r fuel) a b) (fun z => (fun (v25 : Bool) => (bif (!v25) then false else true)) z)))))

def eqExpr (a : Xpr) (b : Xpr) : Bool := eqExpr_r (SizeOf.sizeOf a + 1) a b

def eqExpr_spn (fuel : Nat) : FnSpec := mkSpec [.val (.named 1), .val (.named 1)] [.val .bool] (fun (a : Xpr) (b : Xpr) => (True) ∧ SizeOf.sizeOf a < fuel) (fun (a : Xpr) (b : Xpr) => [⟨.bool, (eqExpr_r fuel a b)⟩])

def eqExpr_sp : FnSpec := mkSpec [.val (.named 1), .val (.named 1)] [.val .bool] (fun (a : Xpr) (b : Xpr) => True) (fun (a : Xpr) (b : Xpr) => [⟨.bool, (eqExpr a b)⟩])

theorem eqExpr_okn (fuel : Nat) : FnOK Try.prog 59 (eqExpr_spn fuel) := by
 induction fuel with
 | zero => exact FnOK.never Try.func59 (by kernel_rfl) rfl (fun _ _ h => absurd h.2 (Nat.not_lt_zero _))
 | succ fuel ih => ?_
 have hC : CtxOK Try.prog (mkCtx tyL [(59, (eqExpr_spn fuel)), (101, eqValue_sp)]) := CtxOK.cons ih (CtxOK.cons eqValue_ok (CtxOK.nil tyOK)); have hM : Try.prog.follows .mixedOrders = true := Try.checked.mixed; have hC1 := hC.rebase 1000; refine FnOK.of_body Try.func59 (by kernel_rfl) rfl (C := (mkCtx tyL [(59, (eqExpr_spn fuel)), (101, eqValue_sp)])) hC.ty (by kernel_rfl) ?_; intro (a : Xpr) (b : Xpr) hwf hpre E; have hpre : (True) ∧ SizeOf.sizeOf a < fuel + 1 := hpre; have hw_a : Wf ⟨(.named 1), (a : Xpr)⟩ := hwf _ (List.Mem.head _); obtain ⟨hr_a_Kind, hr_a_Col, hl_a_Kids⟩ := Xpr.wfl hw_a; have hw_b : Wf ⟨(.named 1), (b : Xpr)⟩ := hwf _ (List.Mem.tail _ (List.Mem.head _)); obtain ⟨hr_b_Kind, hr_b_Col, hl_b_Kids⟩ := Xpr.wfl hw_b; have e0 : eqExpr_r (fuel + 1) a b = eqExpr_r (fuel + 1) a b := rfl; refine seq (r1 hC [2, 3] [8, 12] ⟨[(2, .ref 8 1 0), (3, .ref 12 1 0)], [(8, .box 1 [sI (Xpr.Kind a), sI (Xpr.Col a), sB (Val.Null (Xpr.V a)), sI (Val.N (Xpr.V a)), sD9 (Xpr.Kids a)]), (12, .box 1 [sI (Xpr.Kind b), sI (Xpr.Col b), sB (Val.Null (Xpr.V b)), sI (Val.N (Xpr.V b)), sD9 (Xpr.Kids b)])]⟩ ?_); refine seq (seq (r1U hC [2, 3, 9] [8, 12] [(9, sB ((Xpr.Kind a) != (Xpr.Kind b)))] [] ?_)); refine cdE e0 ?_ ?_
 · intro h1q e2; refine seq (r1 hC [4] [] ⟨[(4, sB false)], []⟩ ?_); exact ret (rB _ e2)
 ·
  intro h3q e4; refine kpU [2, 3] [8, 12] [] [] ?_; refine AW.skip (seq (seq (r1U hC [2, 3, 14] [8, 12] [(14, sB ((Xpr.Col a) != (Xpr.Col b)))] [] ?_))); refine cdE e4 ?_ ?_
  · intro h5q e6; refine seq (r1 hC [4] [] ⟨[(4, sB false)], []⟩ ?_); exact ret (rB _ e6)
  ·
   intro h7q e8; refine kpU [2, 3] [8, 12] [] [] ?_; refine AW.skip (seq (seq (r0U hC [2, 3, 20] [8, 12] [(20, sB (!(eqValue (Xpr.V a) (Xpr.V b))))] [] [(True)] ?_ ?_)))
   ·
    exact ⟨trivial, trivial⟩
   refine cdE e8 ?_ ?_
   · intro h9q e10; refine seq (r1 hC [4] [] ⟨[(4, sB false)], []⟩ ?_); exact ret (rB _ e10)
   ·
    intro h11q e12; refine kpU [2, 3] [8, 12] [] [] ?_; refine AW.skip (seq (seq (AW.regionO [0, 1, 2, 3, 4, 5] (by rfl) ?_)))
    refine AWO.run hC false [] [0, 1, 2, 3] [4, 5] [22, 24] []
     ⟨[(22, sD9 (Xpr.Kids a)), (24, sD9 (Xpr.Kids b))], []⟩
     [] (by rfl) (by kernel_rfl) ?_ ?_
    · exact trivial
    refine AWO.callJ hC.ty [25] [] (α := Bool) (fun x => ⟨[(25, sB x)], []⟩) (fun x => (True) ∧ (eqExpr_c0 (eqExpr_r fuel) a b) = x) (vs := [sD9 (Xpr.Kids a), sD9 (Xpr.Kids b)]) (caps := []) (by rfl) rfl (.inl rfl) (by decide) (by kernel_rfl) (by kernel_rfl) Try.func74 (by kernel_rfl) rfl (by kernel_rfl) ?_ ?_
    ·
     intro o1 ho1; have e99 : (eqExpr_c0 (eqExpr_r fuel) a b) = (eqExpr_c0 (eqExpr_r fuel) a b) := rfl; refine kpU [0, 1] [] [] [] ?_; refine seq (r1U hC1 [0, 1] [] [] [] ?_); refine seq (seq (r1U hC1 [0, 1, 10] [] [(10, sB ((length (Xpr.Kids a) : Int) != (length (Xpr.Kids b) : Int)))] [] ?_)); refine cdE e99 ?_ ?_
     · intro h100q e101; refine seq (r1 hC1 [4] [] ⟨[(4, sB false)], []⟩ ?_); refine ret ?_; refine ⟨false, [sB false], by kernel_rfl, by kernel_rfl, ?_, e101⟩; exact trivial
     ·
      intro h102q e103; refine kpU [0, 1] [] [] [] ?_; refine AW.skip (seq (seq (r1U hC1 [0, 1, 5] [] [(5, sI 0)] [] ?_))); refine lpB (ζ := Unit) (fun x => ⟨[], []⟩) (fun x => True) (fun x => (.inl ())) (α := Nat) (fun x => ⟨[(0, sD9 (Xpr.Kids a)), (1, sD9 (Xpr.Kids b)), (5, sI (x : Int))], []⟩) (fun x => True) (fun x => (length (Xpr.Kids a)) - x) (fun k x => eqExpr_l0 (eqExpr_r fuel) a b k x) 0 (by kernel_rfl) ?_ ?_ ?_
      · exact trivial
      ·
       intro i k133q hI0 hk131 e132; refine seq (seq (r1U hC1 [0, 1, 5, 14] [] [(14, sB (decide ((i : Int) < (length (Xpr.Kids a) : Int))))] [] ?_)); refine cdE e132 ?_ ?_
       ·
        intro h134q e135; refine kpU [0, 1, 5] [] [] [] ?_; refine AW.skip (seq (block (seq (d0U hC1 hM [0, 1, 5, 26] [] [(26, sB (!((eqExpr_r fuel) (getD (Xpr.Kids a) i Xpr.zero) (getD (Xpr.Kids b) i Xpr.zero))))] [] [IX (i : Int) (length (Xpr.Kids a) : Int), IX (i : Int) (length (Xpr.Kids b) : Int), ((True) ∧ SizeOf.sizeOf (getD (Xpr.Kids a) i Xpr.zero) < fuel)] ?_ ?_))))
        ·
         exact ⟨IX.of (by omega), IX.of (by omega), (⟨trivial, Nat.lt_of_lt_of_le (kid_lt (by omega)) (Nat.le_of_lt_succ hpre.2)⟩), trivial⟩
        refine cdE e135 ?_ ?_
        · intro h136q e137; refine seq (r1 hC1 [4] [] ⟨[(4, sB false)], []⟩ ?_); refine ret ?_; have e138 := e103.trans (elim_r e137); refine ⟨false, [sB false], by kernel_rfl, by kernel_rfl, ?_, e138⟩; exact trivial
        ·
         intro h139q e140; refine kpU [0, 1, 5] [] [] [] ?_; refine AW.skip (r0U hC1 [0, 1, 5] [] [(5, sI ((i + 1 : Nat) : Int))] [] [R64 ((i + 1 : Nat) : Int)] ?_ ?_)
         ·
          exact ⟨R64.of (by omega), trivial⟩
         refine bk (i + 1) e140 hk131 ?_ ?_
         · assumption
         · omega
       · intro h141q e142; refine kp [] [] ⟨[], []⟩ ?_; refine exit ?_; refine meet () (by kernel_rfl) ⟨?_, e142⟩; assumption
      · intro x hJ0 e143; have e144 := e103.trans (elim_l e143); refine seq (r1 hC1 [4] [] ⟨[(4, sB true)], []⟩ ?_); refine ret ?_; refine ⟨true, [sB true], by kernel_rfl, by kernel_rfl, ?_, e144⟩; exact trivial
    ·
     intro v25 hR; obtain ⟨hK0, e145⟩ := hR; have e146 := e12.trans (then_eq e145)
     refine AWO.run hC false [] [5] [] [26] []
      ⟨[(26, sB (!v25))], []⟩
      [] (by rfl) (by kernel_rfl) ?_ ?_
     · exact trivial
     refine AWO.nil ?_; refine cdE e146 ?_ ?_
     · intro h147q e148; refine seq (r1 hC [4] [] ⟨[(4, sB false)], []⟩ ?_); exact ret (rB _ e148)
     · intro h149q e150; refine kp [] [] ⟨[], []⟩ ?_; refine AW.skip (seq (r1 hC [4] [] ⟨[(4, sB true)], []⟩ ?_)); exact ret (rB _ e150)

theorem eqExpr_fu : AllTV (eqExpr_sp.ps.map PK.ty) (fun tvs => eqExpr_sp.pre tvs → ∃ k, (eqExpr_spn k).pre tvs ∧ (eqExpr_spn k).fn tvs = eqExpr_sp.fn tvs ∧ (eqExpr_spn k).bx tvs = eqExpr_sp.bx tvs) :=
 (fun (a : Xpr) (b : Xpr) h => ⟨SizeOf.sizeOf a + 1, (show (True) ∧ SizeOf.sizeOf a < SizeOf.sizeOf a + 1 from ⟨h, Nat.lt_succ_self _⟩), (show (eqExpr_spn (SizeOf.sizeOf a + 1)).fn [⟨(.named 1), (a : Xpr)⟩, ⟨(.named 1), (b : Xpr)⟩] = ([⟨.bool, (eqExpr_r (SizeOf.sizeOf a + 1) a b)⟩] : List TV) from by kernel_rfl).trans (show ([⟨.bool, (eqExpr_r (SizeOf.sizeOf a + 1) a b)⟩] : List TV) = eqExpr_sp.fn [⟨(.named 1), (a : Xpr)⟩, ⟨(.named 1), (b : Xpr)⟩] from by kernel_rfl), by kernel_rfl⟩)

theorem eqExpr_ok : FnOK Try.prog 59 eqExpr_sp := FnOK.of_fuel eqExpr_okn (fun _ => rfl) (fun _ => rfl) (AllTV.get eqExpr_fu)

def toIntS_l0 (a : List Int) : Nat → Nat → (List Int) → (List Int)
 | 0, i, out => out
 | k + 1, i, out => (bif (decide ((i : Int) < (length a : Int))) then (toIntS_l0 a k (i + 1) (set out i (getD a i 0))) else out)

def toIntS (a : List Int) : (List Int) := (andThen (toIntS_l0 a ((length a) - 0 + 1) 0 (replicate (length a) 0 : List Int)) (fun z => (fun (out : List Int) => out) z))

def toIntS_sp : FnSpec := mkSpec [.val (.slice (.int .i64))] [.own (.int .i64)] (fun (a : List Int) => (length a : Int) ≤ 1048576) (fun (a : List Int) => [⟨(.slice (.int .i64)), (toIntS a)⟩])

theorem toIntS_ok : FnOK Try.prog 30 toIntS_sp := by
 have hC : CtxOK Try.prog (mkCtx tyL []) := CtxOK.nil tyOK; refine FnOK.of_body Try.func30 (by kernel_rfl) rfl (C := (mkCtx tyL [])) hC.ty (by kernel_rfl) ?_; intro (a : List Int) hwf hpre E; have hpre : (length a : Int) ≤ 1048576 := hpre; have e0 : toIntS a = toIntS a := rfl; refine seq (r1U hC [0] [] [] [] ?_); refine seq (r0U hC [0, 3] [28] [(3, .arr 28 1)] [(28, .arr 1 (.int .i64) ((replicate (length a) 0 : List Int) : List Int))] [(0 ≤ (length a : Int) ∧ (length a : Int) ≤ (length a : Int) ∧ (length a : Int) ≤ 4294967296)] ?_ ?_)
 ·
  exact ⟨(by omega), trivial⟩
 refine seq (seq (r1U hC [0, 3, 4] [28] [(4, sI 0)] [] ?_)); refine lpB (ζ := (List Int)) (fun x => ⟨[(3, .arr 28 1)], [(28, .arr 1 (.int .i64) (x : List Int))]⟩) (fun x => x.length = (length a)) (fun x => x) (α := Nat × (List Int)) (fun x => ⟨[(0, sD7 a), (3, .arr 28 1), (4, sI ((x.1 : Nat) : Int))], [(28, .arr 1 (.int .i64) (x.2 : List Int))]⟩) (fun x => x.2.length = (length a)) (fun x => (length a) - x.1) (fun k x => toIntS_l0 a k x.1 x.2) (0, (replicate (length a) 0 : List Int)) (by kernel_rfl) ?_ ?_ ?_
 · simp
 ·
  intro x k15q hI0 hk13 e14; obtain ⟨i, out⟩ := x; replace hI0 : out.length = (length a) := hI0; refine seq (seq (r1U hC [0, 3, 4, 11] [28] [(11, sB (decide ((i : Int) < (length a : Int))))] [] ?_)); refine cdE e14 ?_ ?_
  ·
   intro h16q e17; refine kpU [0, 3, 4] [28] [] [] ?_; refine AW.skip (seq (block (r0U hC [0, 3, 4] [28] [] [(28, .arr 1 (.int .i64) ((set out i (getD a i 0)) : List Int))] [IX (i : Int) (length a : Int), IX (i : Int) (length out : Int)] ?_ ?_)))
   ·
    exact ⟨IX.of (by omega), IX.of (by omega), trivial⟩
   refine r0U hC [0, 3, 4] [28] [(4, sI ((i + 1 : Nat) : Int))] [] [R64 ((i + 1 : Nat) : Int)] ?_ ?_
   ·
    exact ⟨R64.of (by omega), trivial⟩
   refine bk (i + 1, (set out i (getD a i 0))) e17 hk13 ?_ ?_
   · simp only [lens] at *; omega
   · omega
  · intro h18q e19; refine kpU [3] [28] [] [] ?_; refine exit ?_; refine meet out (by kernel_rfl) ⟨?_, e19⟩; assumption
 · intro out hJ0 e20; have e21 := e0.trans (then_eq e20); refine seq (r1U hC [2] [28] [(2, .arr 28 1)] [] ?_); exact ret (rS (.slice (.int .i64)) e21)

def eqIntS_l0 (a : List Int) (b : List Int) : Nat → Nat → Unit ⊕ Bool
 | 0, i => .inl ()
 | k + 1, i => (bif (decide ((i : Int) < (length a : Int))) then (bif ((getD a i 0) != (getD b i 0)) then (.inr false) else (eqIntS_l0 a b k (i + 1))) else (.inl ()))

def eqIntS (a : List Int) (b : List Int) : Bool := (bif ((length a : Int) != (length b : Int)) then false else (Sum.elim (fun _ => true) (fun r => r) (eqIntS_l0 a b ((length a) - 0 + 1) 0)))

def eqIntS_sp : FnSpec := mkSpec [.val (.slice (.int .i64)), .val (.slice (.int .i64))] [.val .bool] (fun (a : List Int) (b : List Int) => True) (fun (a : List Int) (b : List Int) => [⟨.bool, (eqIntS a b)⟩])

theorem eqIntS_ok : FnOK Try.prog 34 eqIntS_sp := by
 have hC : CtxOK Try.prog (mkCtx tyL []) := CtxOK.nil tyOK; have hM : Try.prog.follows .mixedOrders = true := Try.checked.mixed; refine FnOK.of_body Try.func34 (by kernel_rfl) rfl (C := (mkCtx tyL [])) hC.ty (by kernel_rfl) ?_; intro (a : List Int) (b : List Int) hwf hpre E; have hpre : True := hpre; have hw_a : Wf ⟨(.slice (.int .i64)), (a : List Int)⟩ := hwf _ (List.Mem.head _); have hl_a : (length a : Int) ≤ 9223372036854775807 := hw_a.len; have hw_b : Wf ⟨(.slice (.int .i64)), (b : List Int)⟩ := hwf _ (List.Mem.tail _ (List.Mem.head _)); have hl_b : (length b : Int) ≤ 9223372036854775807 := hw_b.len; have e0 : eqIntS a b = eqIntS a b := rfl; refine seq (r1U hC [0, 1] [] [] [] ?_); refine seq (seq (r1U hC [0, 1, 10] [] [(10, sB ((length a : Int) != (length b : Int)))] [] ?_)); refine cdE e0 ?_ ?_
 · intro h1q e2; refine seq (r1 hC [4] [] ⟨[(4, sB false)], []⟩ ?_); exact ret (rB _ e2)
 ·
  intro h3q e4; refine kpU [0, 1] [] [] [] ?_; refine AW.skip (seq (seq (r1U hC [0, 1, 5] [] [(5, sI 0)] [] ?_))); refine lpB (ζ := Unit) (fun x => ⟨[], []⟩) (fun x => True) (fun x => (.inl ())) (α := Nat) (fun x => ⟨[(0, sD7 a), (1, sD7 b), (5, sI (x : Int))], []⟩) (fun x => True) (fun x => (length a) - x) (fun k x => eqIntS_l0 a b k x) 0 (by kernel_rfl) ?_ ?_ ?_
  · exact trivial
  ·
   intro i k34q hI0 hk32 e33; refine seq (seq (r1U hC [0, 1, 5, 14] [] [(14, sB (decide ((i : Int) < (length a : Int))))] [] ?_)); refine cdE e33 ?_ ?_
   ·
    intro h35q e36; refine kpU [0, 1, 5] [] [] [] ?_; refine AW.skip (seq (block (seq (d0U hC hM [0, 1, 5, 25] [] [(25, sB ((getD a i 0) != (getD b i 0)))] [] [IX (i : Int) (length a : Int), IX (i : Int) (length b : Int)] ?_ ?_))))
    ·
     exact ⟨IX.of (by omega), IX.of (by omega), trivial⟩
    refine cdE e36 ?_ ?_
    · intro h37q e38; refine seq (r1 hC [4] [] ⟨[(4, sB false)], []⟩ ?_); refine ret ?_; have e39 := e4.trans (elim_r e38); exact rB _ e39
    ·
     intro h40q e41; refine kpU [0, 1, 5] [] [] [] ?_; refine AW.skip (r0U hC [0, 1, 5] [] [(5, sI ((i + 1 : Nat) : Int))] [] [R64 ((i + 1 : Nat) : Int)] ?_ ?_)
     ·
      exact ⟨R64.of (by omega), trivial⟩
     refine bk (i + 1) e41 hk32 ?_ ?_
     · assumption
     · omega
   · intro h42q e43; refine kp [] [] ⟨[], []⟩ ?_; refine exit ?_; refine meet () (by kernel_rfl) ⟨?_, e43⟩; assumption
  · intro x hJ0 e44; have e45 := e4.trans (elim_l e44); refine seq (r1 hC [4] [] ⟨[(4, sB true)], []⟩ ?_); exact ret (rB _ e45)

theorem all_loopG {α : Type} (r0 : α) (L : Nat → Nat → Unit ⊕ α) (n : Nat) (bad : Nat → Bool)
  (hS : ∀ k i, L (k + 1) i = bif decide ((i : Int) < (n : Int)) then (bif bad i then .inr r0 else L k (i + 1)) else .inl ()) :
  ∀ k i, n - i < k → (L k i = .inl () ∧ ∀ j, i ≤ j → j < n → bad j = false) ∨ (L k i = .inr r0 ∧ ∃ j, i ≤ j ∧ j < n ∧ bad j = true) := by
 intro k
 induction k with
 | zero => intro i h; omega
 | succ k ih =>
  intro i h; rw [hS]; by_cases hi : i < n
  ·
   rw [show decide ((i : Int) < (n : Int)) = true by simp; omega, cond_true]
   cases hb : bad i with
   | true => exact .inr ⟨rfl, i, Nat.le_refl _, hi, hb⟩
   | false =>
    rw [cond_false]; rcases ih (i + 1) (by omega) with ⟨h1, h2⟩ | ⟨h1, j, h2, h3, h4⟩
    ·
     refine .inl ⟨h1, fun j hj hjn => ?_⟩; by_cases e : j = i
     · subst e; exact hb
     · exact h2 j (by omega) hjn
    · exact .inr ⟨h1, j, by omega, h3, h4⟩
  · rw [show decide ((i : Int) < (n : Int)) = false by simp; omega, cond_false]; exact .inl ⟨rfl, fun j hj hjn => by omega⟩

theorem eqValue_refl (v : Val) : eqValue v v = true := by
 unfold eqValue; simp

theorem eqExpr_refl : ∀ (f : Nat) (a : Xpr), SizeOf.sizeOf a < f → eqExpr_r f a a = true := by
 intro f
 induction f with
 | zero => intro a h; omega
 | succ f ih =>
  intro a h
  have hc : eqExpr_c0 (eqExpr_r f) a a = true := by
   unfold eqExpr_c0; simp only [bne_self_eq_false, cond_false]; rcases all_loop (eqExpr_l0 (eqExpr_r f) a a) a.Kids.length (fun i => !(eqExpr_r f (getD a.Kids i Xpr.zero) (getD a.Kids i Xpr.zero))) (fun k i => rfl) (a.Kids.length - 0 + 1) 0 (by omega) with ⟨h1, _⟩ | ⟨_, j, _, hj, h2⟩
   · rw [h1]; rfl
   · have := kid_lt (t := a) hj; rw [ih _ (by omega)] at h2; cases h2
  unfold eqExpr_r; simp only [bne_self_eq_false, cond_false, andThen, hc, eqValue_refl, Bool.not_true]

theorem eqExpr_self (a : Xpr) : eqExpr a a = true := eqExpr_refl _ a (Nat.lt_succ_self _)

theorem eqIntS_self (a : List Int) : eqIntS a a = true := by
 unfold eqIntS; simp only [bne_self_eq_false, cond_false]; rcases all_loop (eqIntS_l0 a a) a.length (fun i => getD a i 0 != getD a i 0) (fun k i => rfl) (a.length - 0 + 1) 0 (by omega) with ⟨h1, _⟩ | ⟨_, j, _, hj, h2⟩
 · rw [h1]; rfl
 · rw [bne_self_eq_false] at h2; cases h2

end
end Go.Proofs.Ytodcdgolcbdkgaa
