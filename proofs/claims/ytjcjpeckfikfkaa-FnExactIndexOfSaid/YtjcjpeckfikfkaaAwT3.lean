/-
  A part of the proof of this claim (AwT3): what functions of the program compute, and plain facts of that. No conditions.
-/
import Derived.Test.YtjcjpeckfikfkaaAwT1
import Derived.Test.YtjcjpeckfikfkaaAw7
set_option linter.all false
namespace Go.Proofs.Ytjcjpeckfikfkaa
open Go Go.Am
open Go.Am.AW (seq r1U ret kpU cdE r0U r1 meet block rS bk exit lpB r0 kp d0U)
open List (length getD set replicate)
noncomputable section

def szValueS (a : List Val) (left : Int) : Int := (bif (decide ((left - (length a : Int)) < 0)) then (-1) else (left - (length a : Int)))

def szValueS_sp : FnSpec := mkSpec [.val (.slice (.named 1)), .val (.int .i64)] [.val (.int .i64)] (fun (a : List Val) (left : Int) => 0 ≤ left) (fun (a : List Val) (left : Int) => [⟨(.int .i64), (szValueS a left)⟩])

theorem szValueS_ok : FnOK Try.prog 69 szValueS_sp := by
 have hC : CtxOK Try.prog (mkCtx tyL []) := CtxOK.nil tyOK; refine FnOK.of_body Try.func69 (by kernel_rfl) rfl (C := (mkCtx tyL [])) hC.ty (by kernel_rfl) ?_; intro (a : List Val) (left : Int) hwf hpre E; have hpre : 0 ≤ left := hpre; have hw_a : Wf ⟨(.slice (.named 1)), (a : List Val)⟩ := hwf _ (List.Mem.head _); have hl_a : (length a : Int) ≤ 9223372036854775807 := hw_a.len; have hw_left : Wf ⟨(.int .i64), (left : Int)⟩ := hwf _ (List.Mem.tail _ (List.Mem.head _)); have hr_left : -9223372036854775808 ≤ left ∧ left ≤ 9223372036854775807 := hw_left.int_inv; have e0 : szValueS a left = szValueS a left := rfl; refine seq (r1U hC [0, 1] [] [] [] ?_); refine seq (r0 hC [1] [] ⟨[(1, .int .i64 (left - (length a : Int)))], []⟩ [(-9223372036854775808 ≤ (left - (length a : Int)) ∧ (left - (length a : Int)) ≤ 9223372036854775807)] ?_ ?_)
 ·
  exact ⟨(by omega), trivial⟩
 refine seq (seq (r1U hC [1, 10] [] [(10, .bool (decide ((left - (length a : Int)) < 0)))] [] ?_)); refine cdE e0 ?_ ?_
 · intro h1q e2; refine seq (r1 hC [4] [] ⟨[(4, .int .i64 (-1))], []⟩ ?_); exact ret (rS (.int .i64) e2)
 · intro h3q e4; refine kpU [1] [] [] [] ?_; refine AW.skip (seq (r1 hC [4] [] ⟨[(4, .int .i64 (left - (length a : Int)))], []⟩ ?_)); exact ret (rS (.int .i64) e4)

theorem szValueS_ge {a : List Val} {l : Int} (hl : 0 ≤ l) : -1 ≤ szValueS a l ∧ szValueS a l ≤ l := by
 unfold szValueS; by_cases e : l - (length a : Int) < 0
 · rw [decide_eq_true e, cond_true]; omega
 · rw [decide_eq_false e, cond_false]; omega

def szValueSS_l0 (a : List (List Val)) : Nat → Int → Nat → Int ⊕ Int
 | 0, left1, i => .inl left1
 | k + 1, left1, i => (bif (decide ((i : Int) < (length a : Int))) then (bif (decide ((szValueS (getD a i []) left1) < 0)) then (.inr (-1)) else (szValueSS_l0 a k (szValueS (getD a i []) left1) (i + 1))) else (.inl left1))

def szValueSS (a : List (List Val)) (left : Int) : Int := (bif (decide ((left - (length a : Int)) < 0)) then (-1) else (Sum.elim (fun z => (fun (left1 : Int) => left1) z) (fun r => r) (szValueSS_l0 a ((length a) - 0 + 1) (left - (length a : Int)) 0)))

def szValueSS_sp : FnSpec := mkSpec [.val (.slice (.slice (.named 1))), .val (.int .i64)] [.val (.int .i64)] (fun (a : List (List Val)) (left : Int) => 0 ≤ left) (fun (a : List (List Val)) (left : Int) => [⟨(.int .i64), (szValueSS a left)⟩])

theorem szValueSS_ok : FnOK Try.prog 20 szValueSS_sp := by
 have hC : CtxOK Try.prog (mkCtx tyL [(69, szValueS_sp)]) := CtxOK.cons szValueS_ok (CtxOK.nil tyOK); refine FnOK.of_body Try.func20 (by kernel_rfl) rfl (C := (mkCtx tyL [(69, szValueS_sp)])) hC.ty (by kernel_rfl) ?_; intro (a : List (List Val)) (left : Int) hwf hpre E; have hpre : 0 ≤ left := hpre; have hw_a : Wf ⟨(.slice (.slice (.named 1))), (a : List (List Val))⟩ := hwf _ (List.Mem.head _); have hl_a : (length a : Int) ≤ 9223372036854775807 := hw_a.len; have hw_left : Wf ⟨(.int .i64), (left : Int)⟩ := hwf _ (List.Mem.tail _ (List.Mem.head _)); have hr_left : -9223372036854775808 ≤ left ∧ left ≤ 9223372036854775807 := hw_left.int_inv; have e0 : szValueSS a left = szValueSS a left := rfl; refine seq (r1U hC [0, 1] [] [] [] ?_); refine seq (r0U hC [0, 1] [] [(1, .int .i64 (left - (length a : Int)))] [] [(-9223372036854775808 ≤ (left - (length a : Int)) ∧ (left - (length a : Int)) ≤ 9223372036854775807)] ?_ ?_)
 ·
  exact ⟨(by omega), trivial⟩
 refine seq (seq (r1U hC [0, 1, 11] [] [(11, .bool (decide ((left - (length a : Int)) < 0)))] [] ?_)); refine cdE e0 ?_ ?_
 · intro h1q e2; refine seq (r1 hC [4] [] ⟨[(4, .int .i64 (-1))], []⟩ ?_); exact ret (rS (.int .i64) e2)
 ·
  intro h3q e4; refine kpU [0, 1] [] [] [] ?_; refine AW.skip (seq (seq (r1U hC [0, 1, 5] [] [(5, .int .i64 0)] [] ?_))); refine lpB (ζ := Int) (fun x => ⟨[(1, .int .i64 x)], []⟩) (fun x => 0 ≤ x) (fun x => (.inl x)) (α := Int × Nat) (fun x => ⟨[(0, .data (.slice (.slice (.named 1))) (a : List (List Val))), (1, .int .i64 x.1), (5, .int .i64 ((x.2 : Nat) : Int))], []⟩) (fun x => 0 ≤ x.1) (fun x => (length a) - x.2) (fun k x => szValueSS_l0 a k x.1 x.2) ((left - (length a : Int)), 0) (by kernel_rfl) ?_ ?_ ?_
  · omega
  ·
   intro x k34q hI0 hk32 e33; obtain ⟨left1, i⟩ := x; refine seq (seq (r1U hC [0, 1, 5, 15] [] [(15, .bool (decide ((i : Int) < (length a : Int))))] [] ?_)); refine cdE e33 ?_ ?_
   ·
    intro h35q e36; refine kpU [0, 1, 5] [] [] [] ?_; refine AW.skip (seq (block (seq (r0U hC [0, 1, 5] [] [(1, .int .i64 (szValueS (getD a i []) left1))] [] [(0 ≤ (i : Int) ∧ (i : Int) < (length a : Int)), (0 ≤ left1)] ?_ ?_))))
    ·
     exact ⟨(by omega), (by omega), trivial⟩
    refine seq (r1U hC [0, 1, 5, 25] [] [(25, .bool (decide ((szValueS (getD a i []) left1) < 0)))] [] ?_); refine cdE e36 ?_ ?_
    · intro h37q e38; refine seq (r1 hC [4] [] ⟨[(4, .int .i64 (-1))], []⟩ ?_); refine ret ?_; have e39 := e4.trans (elim_r e38); exact rS (.int .i64) e39
    ·
     intro h40q e41; refine kpU [0, 1, 5] [] [] [] ?_; refine AW.skip (r0U hC [0, 1, 5] [] [(5, .int .i64 ((i + 1 : Nat) : Int))] [] [(-9223372036854775808 ≤ ((i + 1 : Nat) : Int) ∧ ((i + 1 : Nat) : Int) ≤ 9223372036854775807)] ?_ ?_)
     ·
      exact ⟨(by omega), trivial⟩
     refine bk ((szValueS (getD a i []) left1), i + 1) e41 hk32 ?_ ?_
     · exact Int.not_lt.1 h40q
     · omega
   · intro h42q e43; refine kpU [1] [] [] [] ?_; refine exit ?_; refine meet left1 (by kernel_rfl) ⟨?_, e43⟩; assumption
  · intro left1 hJ0 e44; have e45 := e4.trans (elim_l e44); refine seq (r1 hC [4] [] ⟨[(4, .int .i64 left1)], []⟩ ?_); exact ret (rS (.int .i64) e45)

def szTable (a : Tab) (left : Int) : Int := (bif (decide ((szValueSS (Tab.Rows a) left) < 0)) then (-1) else (szValueSS (Tab.Rows a) left))

def szTable_sp : FnSpec := mkSpec [.val (.named 2), .val (.int .i64)] [.val (.int .i64)] (fun (a : Tab) (left : Int) => 0 ≤ left) (fun (a : Tab) (left : Int) => [⟨(.int .i64), (szTable a left)⟩])

theorem szTable_ok : FnOK Try.prog 34 szTable_sp := by
 have hC : CtxOK Try.prog (mkCtx tyL [(20, szValueSS_sp)]) := CtxOK.cons szValueSS_ok (CtxOK.nil tyOK); refine FnOK.of_body Try.func34 (by kernel_rfl) rfl (C := (mkCtx tyL [(20, szValueSS_sp)])) hC.ty (by kernel_rfl) ?_; intro (a : Tab) (left : Int) hwf hpre E; have hpre : 0 ≤ left := hpre; have e0 : szTable a left = szTable a left := rfl; refine seq (r1U hC [1, 2] [8] [(2, .ref 8 1 0)] [(8, .box 1 [.int .i64 (Tab.Width a), .data (.slice (.slice (.named 1))) ((Tab.Rows a) : List (List Val))])] ?_); refine seq (r0 hC [1] [] ⟨[(1, .int .i64 (szValueSS (Tab.Rows a) left))], []⟩ [(0 ≤ left)] ?_ ?_)
 ·
  exact ⟨(by omega), trivial⟩
 refine seq (seq (r1U hC [1, 10] [] [(10, .bool (decide ((szValueSS (Tab.Rows a) left) < 0)))] [] ?_)); refine cdE e0 ?_ ?_
 · intro h1q e2; refine seq (r1 hC [4] [] ⟨[(4, .int .i64 (-1))], []⟩ ?_); exact ret (rS (.int .i64) e2)
 · intro h3q e4; refine kpU [1] [] [] [] ?_; refine AW.skip (seq (r1 hC [4] [] ⟨[(4, .int .i64 (szValueSS (Tab.Rows a) left))], []⟩ ?_)); exact ret (rS (.int .i64) e4)

def toValue (a : Val) : Val := a

def toValue_sp : FnSpec := mkSpec [.val (.named 1)] [.val (.named 1)] (fun (a : Val) => True) (fun (a : Val) => [⟨(.named 1), (toValue a)⟩])

theorem toValue_ok : FnOK Try.prog 102 toValue_sp := by
 have hC : CtxOK Try.prog (mkCtx tyL []) := CtxOK.nil tyOK; refine FnOK.of_body Try.func102 (by kernel_rfl) rfl (C := (mkCtx tyL [])) hC.ty (by kernel_rfl) ?_; intro (a : Val) hwf hpre E; have e0 : toValue a = toValue a := rfl; refine seq (r1 hC [1, 2] [4, 8] ⟨[(1, .ref 4 1 0), (2, .ref 8 1 0)], [(4, .box 1 [.bool (Val.Null a), .int .i64 (Val.N a)]), (8, .box 1 [.bool false, .int .i64 0])]⟩ ?_); refine seq (r1U hC [1, 2, 3] [4, 8, 12] [(3, .ref 12 1 0)] [(12, .box 1 [.bool false, .int .i64 0])] ?_); refine seq (r1U hC [1, 2, 3] [4, 8, 12] [] [(12, .box 1 [.bool (Val.Null a), .int .i64 0])] ?_); refine seq (r1U hC [2, 3] [8, 12] [] [(12, .box 1 [.bool (Val.Null a), .int .i64 (Val.N a)])] ?_); refine seq (r1U hC [2] [8] [] [(8, .box 1 [.bool (Val.Null a), .int .i64 (Val.N a)])] ?_); exact ret (rS (.named 1) e0)

def toValueS_l0 (a : List Val) : Nat → Nat → (List Val) → (List Val)
 | 0, i, out => out
 | k + 1, i, out => (bif (decide ((i : Int) < (length a : Int))) then (toValueS_l0 a k (i + 1) (set out i (toValue (getD a i Val.zero)))) else out)

def toValueS (a : List Val) : (List Val) := (andThen (toValueS_l0 a ((length a) - 0 + 1) 0 (replicate (length a) Val.zero : List Val)) (fun z => (fun (out : List Val) => out) z))

def toValueS_sp : FnSpec := mkSpec [.val (.slice (.named 1))] [.own (.named 1)] (fun (a : List Val) => (length a : Int) ≤ 1048576) (fun (a : List Val) => [⟨(.slice (.named 1)), (toValueS a)⟩])

theorem toValueS_ok : FnOK Try.prog 70 toValueS_sp := by
 have hC : CtxOK Try.prog (mkCtx tyL [(102, toValue_sp)]) := CtxOK.cons toValue_ok (CtxOK.nil tyOK); refine FnOK.of_body Try.func70 (by kernel_rfl) rfl (C := (mkCtx tyL [(102, toValue_sp)])) hC.ty (by kernel_rfl) ?_; intro (a : List Val) hwf hpre E; have hpre : (length a : Int) ≤ 1048576 := hpre; have e0 : toValueS a = toValueS a := rfl; refine seq (r1U hC [0] [] [] [] ?_); refine seq (r0U hC [0, 3] [28] [(3, .arr 28 1)] [(28, .arr 1 (.named 1) ((replicate (length a) Val.zero : List Val) : List Val))] [(0 ≤ (length a : Int) ∧ (length a : Int) ≤ (length a : Int) ∧ (length a : Int) ≤ 4294967296)] ?_ ?_)
 ·
  exact ⟨(by omega), trivial⟩
 refine seq (seq (r1U hC [0, 3, 4] [28] [(4, .int .i64 0)] [] ?_)); refine lpB (ζ := (List Val)) (fun x => ⟨[(3, .arr 28 1)], [(28, .arr 1 (.named 1) (x : List Val))]⟩) (fun x => x.length = (length a)) (fun x => x) (α := Nat × (List Val)) (fun x => ⟨[(0, .data (.slice (.named 1)) (a : List Val)), (3, .arr 28 1), (4, .int .i64 ((x.1 : Nat) : Int))], [(28, .arr 1 (.named 1) (x.2 : List Val))]⟩) (fun x => x.2.length = (length a)) (fun x => (length a) - x.1) (fun k x => toValueS_l0 a k x.1 x.2) (0, (replicate (length a) Val.zero : List Val)) (by kernel_rfl) ?_ ?_ ?_
 · simp; done
 ·
  intro x k15q hI0 hk13 e14; obtain ⟨i, out⟩ := x; replace hI0 : out.length = (length a) := hI0; refine seq (seq (r1U hC [0, 3, 4, 11] [28] [(11, .bool (decide ((i : Int) < (length a : Int))))] [] ?_)); refine cdE e14 ?_ ?_
  ·
   intro h16q e17; refine kpU [0, 3, 4] [28] [] [] ?_; refine AW.skip (seq (block (r0U hC [0, 3, 4] [28] [] [(28, .arr 1 (.named 1) ((set out i (toValue (getD a i Val.zero))) : List Val))] [(0 ≤ (i : Int) ∧ (i : Int) < (length a : Int)), (True), (0 ≤ (i : Int) ∧ (i : Int) < (length out : Int))] ?_ ?_)))
   ·
    exact ⟨(by omega), trivial, (by omega), trivial⟩
   refine r0U hC [0, 3, 4] [28] [(4, .int .i64 ((i + 1 : Nat) : Int))] [] [(-9223372036854775808 ≤ ((i + 1 : Nat) : Int) ∧ ((i + 1 : Nat) : Int) ≤ 9223372036854775807)] ?_ ?_
   ·
    exact ⟨(by omega), trivial⟩
   refine bk (i + 1, (set out i (toValue (getD a i Val.zero)))) e17 hk13 ?_ ?_
   · simp only [lens] at *; omega
   · omega
  · intro h18q e19; refine kpU [3] [28] [] [] ?_; refine exit ?_; refine meet out (by kernel_rfl) ⟨?_, e19⟩; assumption
 · intro out hJ0 e20; have e21 := e0.trans (then_eq e20); refine seq (r1U hC [2] [28] [(2, .arr 28 1)] [] ?_); exact ret (rS (.slice (.named 1)) e21)

def toValueSS_l0 (a : List (List Val)) : Nat → Nat → (List (List Val)) → (List (List Val))
 | 0, i, out => out
 | k + 1, i, out => (bif (decide ((i : Int) < (length a : Int))) then (toValueSS_l0 a k (i + 1) (set out i (toValueS (getD a i [])))) else out)

def toValueSS (a : List (List Val)) : (List (List Val)) := (andThen (toValueSS_l0 a ((length a) - 0 + 1) 0 (replicate (length a) [] : List (List Val))) (fun z => (fun (out : List (List Val)) => out) z))

def toValueSS_sp : FnSpec := mkSpec [.val (.slice (.slice (.named 1)))] [.deep (.slice (.slice (.named 1)))] (fun (a : List (List Val)) => (length a : Int) ≤ 1048576 ∧ ∀ i : Nat, i < length a → (length (getD a i []) : Int) ≤ 1048576) (fun (a : List (List Val)) => [⟨(.slice (.slice (.named 1))), (toValueSS a)⟩])

theorem toValueSS_ok : FnOK Try.prog 21 toValueSS_sp := by
 have hC : CtxOK Try.prog { (mkCtx tyL [(70, toValueS_sp)]) with deep := true } := CtxOK.deepen (CtxOK.cons toValueS_ok (CtxOK.nil tyOK)); refine FnOK.of_body Try.func21 (by kernel_rfl) rfl (C := { (mkCtx tyL [(70, toValueS_sp)]) with deep := true }) hC.ty (by kernel_rfl) ?_; intro (a : List (List Val)) hwf hpre E; have hpre : (length a : Int) ≤ 1048576 ∧ ∀ i : Nat, i < length a → (length (getD a i []) : Int) ≤ 1048576 := hpre; have e0 : toValueSS a = toValueSS a := rfl; refine seq (r1U hC [0] [] [] [] ?_); refine seq (r0U hC [0, 3] [28] [(3, .tr 28 1)] [(28, .tree 1 (.slice (.named 1)) ((replicate (length a) [] : List (List Val)) : List (List Val)))] [(0 ≤ (length a : Int) ∧ (length a : Int) ≤ (length a : Int) ∧ (length a : Int) ≤ 4294967296)] ?_ ?_)
 ·
  exact ⟨(by omega), trivial⟩
 refine seq (seq (r1U hC [0, 3, 4] [28] [(4, .int .i64 0)] [] ?_)); refine lpB (ζ := (List (List Val))) (fun x => ⟨[(3, .tr 28 1)], [(28, .tree 1 (.slice (.named 1)) (x : List (List Val)))]⟩) (fun x => x.length = (length a)) (fun x => x) (α := Nat × (List (List Val))) (fun x => ⟨[(0, .data (.slice (.slice (.named 1))) (a : List (List Val))), (3, .tr 28 1), (4, .int .i64 ((x.1 : Nat) : Int))], [(28, .tree 1 (.slice (.named 1)) (x.2 : List (List Val)))]⟩) (fun x => x.2.length = (length a)) (fun x => (length a) - x.1) (fun k x => toValueSS_l0 a k x.1 x.2) (0, (replicate (length a) [] : List (List Val))) (by kernel_rfl) ?_ ?_ ?_
 · simp; done
 ·
  intro x k15q hI0 hk13 e14; obtain ⟨i, out⟩ := x; replace hI0 : out.length = (length a) := hI0; refine seq (seq (r1U hC [0, 3, 4, 11] [28] [(11, .bool (decide ((i : Int) < (length a : Int))))] [] ?_)); refine cdE e14 ?_ ?_
  ·
   intro h16q e17; refine kpU [0, 3, 4] [28] [] [] ?_; refine AW.skip (seq (block (r0U hC [0, 3, 4] [28] [] [(28, .tree 1 (.slice (.named 1)) ((set out i (toValueS (getD a i []))) : List (List Val)))] [(0 ≤ (i : Int) ∧ (i : Int) < (length a : Int)), ((length (getD a i []) : Int) ≤ 1048576), (0 ≤ (i : Int) ∧ (i : Int) < (length out : Int))] ?_ ?_)))
   ·
    exact ⟨(by omega), (hpre.2 i (by omega)), (by omega), trivial⟩
   refine r0U hC [0, 3, 4] [28] [(4, .int .i64 ((i + 1 : Nat) : Int))] [] [(-9223372036854775808 ≤ ((i + 1 : Nat) : Int) ∧ ((i + 1 : Nat) : Int) ≤ 9223372036854775807)] ?_ ?_
   ·
    exact ⟨(by omega), trivial⟩
   refine bk (i + 1, (set out i (toValueS (getD a i [])))) e17 hk13 ?_ ?_
   · simp only [lens] at *; omega
   · omega
  · intro h18q e19; refine kpU [3] [28] [] [] ?_; refine exit ?_; refine meet out (by kernel_rfl) ⟨?_, e19⟩; assumption
 · intro out hJ0 e20; have e21 := e0.trans (then_eq e20); refine seq (r1U hC [2] [28] [(2, .tr 28 1)] [] ?_); exact ret (rS (.slice (.slice (.named 1))) e21)

def toTable (a : Tab) : Tab := (Tab.mk (Tab.Width a) (toValueSS (Tab.Rows a)))

def toTable_sp : FnSpec := mkSpec [.val (.named 2)] [.deep (.named 2)] (fun (a : Tab) => (length a.Rows : Int) ≤ 1048576 ∧ ∀ i : Nat, i < length a.Rows → (length (getD a.Rows i []) : Int) ≤ 1048576) (fun (a : Tab) => [⟨(.named 2), (toTable a)⟩])

theorem toTable_ok : FnOK Try.prog 35 toTable_sp := by
 have hC : CtxOK Try.prog { (mkCtx tyL [(21, toValueSS_sp)]) with deep := true } := CtxOK.deepen (CtxOK.cons toValueSS_ok (CtxOK.nil tyOK)); refine FnOK.of_body Try.func35 (by kernel_rfl) rfl (C := { (mkCtx tyL [(21, toValueSS_sp)]) with deep := true }) hC.ty (by kernel_rfl) ?_; intro (a : Tab) hwf hpre E; have hpre : (length a.Rows : Int) ≤ 1048576 ∧ ∀ i : Nat, i < length a.Rows → (length (getD a.Rows i []) : Int) ≤ 1048576 := hpre; have e0 : toTable a = toTable a := rfl; refine seq (r1 hC [1, 2] [4, 8] ⟨[(1, .ref 4 1 0), (2, .ref 8 1 0)], [(4, .box 1 [.int .i64 (Tab.Width a), .data (.slice (.slice (.named 1))) ((Tab.Rows a) : List (List Val))]), (8, .box 1 [.int .i64 0, .nilsl])]⟩ ?_); refine seq (r1U hC [1, 2, 3] [4, 8, 12] [(3, .ref 12 1 0)] [(12, .box 1 [.int .i64 0, .nilsl])] ?_); refine seq (r1U hC [1, 2, 3] [4, 8, 12] [] [(12, .box 1 [.int .i64 (Tab.Width a), .nilsl])] ?_); refine seq (r0U hC [2, 3] [8, 12, 36] [] [(12, .box 1 [.int .i64 (Tab.Width a), .tr 36 1]), (36, .tree 1 (.slice (.named 1)) ((toValueSS (Tab.Rows a)) : List (List Val)))] [((length (Tab.Rows a) : Int) ≤ 1048576 ∧ ∀ i : Nat, i < length (Tab.Rows a) → (length (getD (Tab.Rows a) i []) : Int) ≤ 1048576)] ?_ ?_)
 ·
  exact ⟨(by omega), trivial⟩
 refine seq (r1U hC [2] [8, 36] [] [(8, .box 1 [.int .i64 (Tab.Width a), .tr 36 1])] ?_); exact ret (rS (.named 2) e0)

def eqValue (a : Val) (b : Val) : Bool := (bif ((Val.Null a) != (Val.Null b)) then false else (bif ((Val.N a) != (Val.N b)) then false else true))

def eqValue_sp : FnSpec := mkSpec [.val (.named 1), .val (.named 1)] [.val .bool] (fun (a : Val) (b : Val) => True) (fun (a : Val) (b : Val) => [⟨.bool, (eqValue a b)⟩])

theorem eqValue_ok : FnOK Try.prog 103 eqValue_sp := by
 have hC : CtxOK Try.prog (mkCtx tyL []) := CtxOK.nil tyOK; refine FnOK.of_body Try.func103 (by kernel_rfl) rfl (C := (mkCtx tyL [])) hC.ty (by kernel_rfl) ?_; intro (a : Val) (b : Val) hwf hpre E; have e0 : eqValue a b = eqValue a b := rfl; refine seq (r1 hC [2, 3] [8, 12] ⟨[(2, .ref 8 1 0), (3, .ref 12 1 0)], [(8, .box 1 [.bool (Val.Null a), .int .i64 (Val.N a)]), (12, .box 1 [.bool (Val.Null b), .int .i64 (Val.N b)])]⟩ ?_); refine seq (seq (r1U hC [2, 3, 9] [8, 12] [(9, .bool ((Val.Null a) != (Val.Null b)))] [] ?_)); refine cdE e0 ?_ ?_
 · intro h1q e2; refine seq (r1 hC [4] [] ⟨[(4, .bool false)], []⟩ ?_); exact ret (rS .bool e2)
 ·
  intro h3q e4; refine kpU [2, 3] [8, 12] [] [] ?_; refine AW.skip (seq (seq (r1 hC [14] [] ⟨[(14, .bool ((Val.N a) != (Val.N b)))], []⟩ ?_))); refine cdE e4 ?_ ?_
  · intro h5q e6; refine seq (r1 hC [4] [] ⟨[(4, .bool false)], []⟩ ?_); exact ret (rS .bool e6)
  · intro h7q e8; refine kp [] [] ⟨[], []⟩ ?_; refine AW.skip (seq (r1 hC [4] [] ⟨[(4, .bool true)], []⟩ ?_)); exact ret (rS .bool e8)

def eqValueS_l0 (a : List Val) (b : List Val) : Nat → Nat → Unit ⊕ Bool
 | 0, i => .inl ()
 | k + 1, i => (bif (decide ((i : Int) < (length a : Int))) then (bif (!(eqValue (getD a i Val.zero) (getD b i Val.zero))) then (.inr false) else (eqValueS_l0 a b k (i + 1))) else (.inl ()))

def eqValueS (a : List Val) (b : List Val) : Bool := (bif ((length a : Int) != (length b : Int)) then false else (Sum.elim (fun _ => true) (fun r => r) (eqValueS_l0 a b ((length a) - 0 + 1) 0)))

def eqValueS_sp : FnSpec := mkSpec [.val (.slice (.named 1)), .val (.slice (.named 1))] [.val .bool] (fun (a : List Val) (b : List Val) => True) (fun (a : List Val) (b : List Val) => [⟨.bool, (eqValueS a b)⟩])

theorem eqValueS_ok : FnOK Try.prog 71 eqValueS_sp := by
 have hC : CtxOK Try.prog (mkCtx tyL [(103, eqValue_sp)]) := CtxOK.cons eqValue_ok (CtxOK.nil tyOK); have hM : Try.prog.follows .mixedOrders = true := Try.checked.mixed; refine FnOK.of_body Try.func71 (by kernel_rfl) rfl (C := (mkCtx tyL [(103, eqValue_sp)])) hC.ty (by kernel_rfl) ?_; intro (a : List Val) (b : List Val) hwf hpre E; have hpre : True := hpre; have hw_a : Wf ⟨(.slice (.named 1)), (a : List Val)⟩ := hwf _ (List.Mem.head _); have hl_a : (length a : Int) ≤ 9223372036854775807 := hw_a.len; have hw_b : Wf ⟨(.slice (.named 1)), (b : List Val)⟩ := hwf _ (List.Mem.tail _ (List.Mem.head _)); have hl_b : (length b : Int) ≤ 9223372036854775807 := hw_b.len; have e0 : eqValueS a b = eqValueS a b := rfl; refine seq (r1U hC [0, 1] [] [] [] ?_); refine seq (seq (r1U hC [0, 1, 10] [] [(10, .bool ((length a : Int) != (length b : Int)))] [] ?_)); refine cdE e0 ?_ ?_
 · intro h1q e2; refine seq (r1 hC [4] [] ⟨[(4, .bool false)], []⟩ ?_); exact ret (rS .bool e2)
 ·
  intro h3q e4; refine kpU [0, 1] [] [] [] ?_; refine AW.skip (seq (seq (r1U hC [0, 1, 5] [] [(5, .int .i64 0)] [] ?_))); refine lpB (ζ := Unit) (fun x => ⟨[], []⟩) (fun x => True) (fun x => (.inl ())) (α := Nat) (fun x => ⟨[(0, .data (.slice (.named 1)) (a : List Val)), (1, .data (.slice (.named 1)) (b : List Val)), (5, .int .i64 (x : Int))], []⟩) (fun x => True) (fun x => (length a) - x) (fun k x => eqValueS_l0 a b k x) 0 (by kernel_rfl) ?_ ?_ ?_
  · exact trivial
  ·
   intro i k34q hI0 hk32 e33; refine seq (seq (r1U hC [0, 1, 5, 14] [] [(14, .bool (decide ((i : Int) < (length a : Int))))] [] ?_)); refine cdE e33 ?_ ?_
   ·
    intro h35q e36; refine kpU [0, 1, 5] [] [] [] ?_; refine AW.skip (seq (block (seq (d0U hC hM [0, 1, 5, 26] [] [(26, .bool (!(eqValue (getD a i Val.zero) (getD b i Val.zero))))] [] [(0 ≤ (i : Int) ∧ (i : Int) < (length a : Int)), (0 ≤ (i : Int) ∧ (i : Int) < (length b : Int)), (True)] ?_ ?_))))
    ·
     exact ⟨(by omega), (by omega), trivial, trivial⟩
    refine cdE e36 ?_ ?_
    · intro h37q e38; refine seq (r1 hC [4] [] ⟨[(4, .bool false)], []⟩ ?_); refine ret ?_; have e39 := e4.trans (elim_r e38); exact rS .bool e39
    ·
     intro h40q e41; refine kpU [0, 1, 5] [] [] [] ?_; refine AW.skip (r0U hC [0, 1, 5] [] [(5, .int .i64 ((i + 1 : Nat) : Int))] [] [(-9223372036854775808 ≤ ((i + 1 : Nat) : Int) ∧ ((i + 1 : Nat) : Int) ≤ 9223372036854775807)] ?_ ?_)
     ·
      exact ⟨(by omega), trivial⟩
     refine bk (i + 1) e41 hk32 ?_ ?_
     · assumption
     · omega
   · intro h42q e43; refine kp [] [] ⟨[], []⟩ ?_; refine exit ?_; refine meet () (by kernel_rfl) ⟨?_, e43⟩; assumption
  · intro x hJ0 e44; have e45 := e4.trans (elim_l e44); refine seq (r1 hC [4] [] ⟨[(4, .bool true)], []⟩ ?_); exact ret (rS .bool e45)

def eqValueSS_l0 (a : List (List Val)) (b : List (List Val)) : Nat → Nat → Unit ⊕ Bool
 | 0, i => .inl ()
 | k + 1, i => (bif (decide ((i : Int) < (length a : Int))) then (bif (!(eqValueS (getD a i []) (getD b i []))) then (.inr false) else (eqValueSS_l0 a b k (i + 1))) else (.inl ()))

def eqValueSS (a : List (List Val)) (b : List (List Val)) : Bool := (bif ((length a : Int) != (length b : Int)) then false else (Sum.elim (fun _ => true) (fun r => r) (eqValueSS_l0 a b ((length a) - 0 + 1) 0)))

def eqValueSS_sp : FnSpec := mkSpec [.val (.slice (.slice (.named 1))), .val (.slice (.slice (.named 1)))] [.val .bool] (fun (a : List (List Val)) (b : List (List Val)) => True) (fun (a : List (List Val)) (b : List (List Val)) => [⟨.bool, (eqValueSS a b)⟩])

theorem eqValueSS_ok : FnOK Try.prog 23 eqValueSS_sp := by
 have hC : CtxOK Try.prog (mkCtx tyL [(71, eqValueS_sp)]) := CtxOK.cons eqValueS_ok (CtxOK.nil tyOK); have hM : Try.prog.follows .mixedOrders = true := Try.checked.mixed; refine FnOK.of_body Try.func23 (by kernel_rfl) rfl (C := (mkCtx tyL [(71, eqValueS_sp)])) hC.ty (by kernel_rfl) ?_; intro (a : List (List Val)) (b : List (List Val)) hwf hpre E; have hpre : True := hpre; have hw_a : Wf ⟨(.slice (.slice (.named 1))), (a : List (List Val))⟩ := hwf _ (List.Mem.head _); have hl_a : (length a : Int) ≤ 9223372036854775807 := hw_a.len; have hw_b : Wf ⟨(.slice (.slice (.named 1))), (b : List (List Val))⟩ := hwf _ (List.Mem.tail _ (List.Mem.head _)); have hl_b : (length b : Int) ≤ 9223372036854775807 := hw_b.len; have e0 : eqValueSS a b = eqValueSS a b := rfl; refine seq (r1U hC [0, 1] [] [] [] ?_); refine seq (seq (r1U hC [0, 1, 10] [] [(10, .bool ((length a : Int) != (length b : Int)))] [] ?_)); refine cdE e0 ?_ ?_
 · intro h1q e2; refine seq (r1 hC [4] [] ⟨[(4, .bool false)], []⟩ ?_); exact ret (rS .bool e2)
 ·
  intro h3q e4; refine kpU [0, 1] [] [] [] ?_; refine AW.skip (seq (seq (r1U hC [0, 1, 5] [] [(5, .int .i64 0)] [] ?_))); refine lpB (ζ := Unit) (fun x => ⟨[], []⟩) (fun x => True) (fun x => (.inl ())) (α := Nat) (fun x => ⟨[(0, .data (.slice (.slice (.named 1))) (a : List (List Val))), (1, .data (.slice (.slice (.named 1))) (b : List (List Val))), (5, .int .i64 (x : Int))], []⟩) (fun x => True) (fun x => (length a) - x) (fun k x => eqValueSS_l0 a b k x) 0 (by kernel_rfl) ?_ ?_ ?_
  · exact trivial
  ·
   intro i k34q hI0 hk32 e33; refine seq (seq (r1U hC [0, 1, 5, 14] [] [(14, .bool (decide ((i : Int) < (length a : Int))))] [] ?_)); refine cdE e33 ?_ ?_
   ·
    intro h35q e36; refine kpU [0, 1, 5] [] [] [] ?_; refine AW.skip (seq (block (seq (d0U hC hM [0, 1, 5, 26] [] [(26, .bool (!(eqValueS (getD a i []) (getD b i []))))] [] [(0 ≤ (i : Int) ∧ (i : Int) < (length a : Int)), (0 ≤ (i : Int) ∧ (i : Int) < (length b : Int)), (True)] ?_ ?_))))
    ·
     exact ⟨(by omega), (by omega), trivial, trivial⟩
    refine cdE e36 ?_ ?_
    · intro h37q e38; refine seq (r1 hC [4] [] ⟨[(4, .bool false)], []⟩ ?_); refine ret ?_; have e39 := e4.trans (elim_r e38); exact rS .bool e39
    ·
     intro h40q e41; refine kpU [0, 1, 5] [] [] [] ?_; refine AW.skip (r0U hC [0, 1, 5] [] [(5, .int .i64 ((i + 1 : Nat) : Int))] [] [(-9223372036854775808 ≤ ((i + 1 : Nat) : Int) ∧ ((i + 1 : Nat) : Int) ≤ 9223372036854775807)] ?_ ?_)
     ·
      exact ⟨(by omega), trivial⟩
     refine bk (i + 1) e41 hk32 ?_ ?_
     · assumption
     · omega
   · intro h42q e43; refine kp [] [] ⟨[], []⟩ ?_; refine exit ?_; refine meet () (by kernel_rfl) ⟨?_, e43⟩; assumption
  · intro x hJ0 e44; have e45 := e4.trans (elim_l e44); refine seq (r1 hC [4] [] ⟨[(4, .bool true)], []⟩ ?_); exact ret (rS .bool e45)

def eqTable (a : Tab) (b : Tab) : Bool := (bif ((Tab.Width a) != (Tab.Width b)) then false else (bif (!(eqValueSS (Tab.Rows a) (Tab.Rows b))) then false else true))

def eqTable_sp : FnSpec := mkSpec [.val (.named 2), .val (.named 2)] [.val .bool] (fun (a : Tab) (b : Tab) => True) (fun (a : Tab) (b : Tab) => [⟨.bool, (eqTable a b)⟩])

theorem eqTable_ok : FnOK Try.prog 22 eqTable_sp := by
 have hC : CtxOK Try.prog (mkCtx tyL [(23, eqValueSS_sp)]) := CtxOK.cons eqValueSS_ok (CtxOK.nil tyOK); refine FnOK.of_body Try.func22 (by kernel_rfl) rfl (C := (mkCtx tyL [(23, eqValueSS_sp)])) hC.ty (by kernel_rfl) ?_; intro (a : Tab) (b : Tab) hwf hpre E; have e0 : eqTable a b = eqTable a b := rfl; refine seq (r1 hC [2, 3] [8, 12] ⟨[(2, .ref 8 1 0), (3, .ref 12 1 0)], [(8, .box 1 [.int .i64 (Tab.Width a), .data (.slice (.slice (.named 1))) ((Tab.Rows a) : List (List Val))]), (12, .box 1 [.int .i64 (Tab.Width b), .data (.slice (.slice (.named 1))) ((Tab.Rows b) : List (List Val))])]⟩ ?_); refine seq (seq (r1U hC [2, 3, 9] [8, 12] [(9, .bool ((Tab.Width a) != (Tab.Width b)))] [] ?_)); refine cdE e0 ?_ ?_
 · intro h1q e2; refine seq (r1 hC [4] [] ⟨[(4, .bool false)], []⟩ ?_); exact ret (rS .bool e2)
 ·
  intro h3q e4; refine kpU [2, 3] [8, 12] [] [] ?_; refine AW.skip (seq (seq (r0 hC [15] [] ⟨[(15, .bool (!(eqValueSS (Tab.Rows a) (Tab.Rows b))))], []⟩ [(True)] ?_ ?_)))
  ·
   exact ⟨trivial, trivial⟩
  refine cdE e4 ?_ ?_
  · intro h5q e6; refine seq (r1 hC [4] [] ⟨[(4, .bool false)], []⟩ ?_); exact ret (rS .bool e6)
  · intro h7q e8; refine kp [] [] ⟨[], []⟩ ?_; refine AW.skip (seq (r1 hC [4] [] ⟨[(4, .bool true)], []⟩ ?_)); exact ret (rS .bool e8)

def heldValueS_l0 (a : List Val) : Nat → Int → Nat → Int ⊕ Int
 | 0, k1, i => .inl k1
 | k + 1, k1, i => (bif (decide ((i : Int) < (length a : Int))) then (bif ((Val.Null (getD a i Val.zero)) != ((Int.tmod k1 3) == 0)) then (.inr (-1)) else (bif ((Val.N (getD a i Val.zero)) != (IntKind.wrap .i64 (k1 + 1))) then (.inr (-1)) else (heldValueS_l0 a k (IntKind.wrap .i64 ((IntKind.wrap .i64 (k1 + 1)) + 1)) (i + 1)))) else (.inl k1))

def heldValueS (a : List Val) (k0 : Int) : Int := (Sum.elim (fun z => (fun (k1 : Int) => k1) z) (fun r => r) (heldValueS_l0 a ((length a) - 0 + 1) k0 0))

def heldValueSS_l0 (a : List (List Val)) : Nat → Int → Nat → Int ⊕ Int
 | 0, k1, i => .inl k1
 | k + 1, k1, i => (bif (decide ((i : Int) < (length a : Int))) then (bif (decide ((heldValueS (getD a i []) k1) < 0)) then (.inr (-1)) else (heldValueSS_l0 a k (heldValueS (getD a i []) k1) (i + 1))) else (.inl k1))

def heldValueSS (a : List (List Val)) (k0 : Int) : Int := (Sum.elim (fun z => (fun (k1 : Int) => k1) z) (fun r => r) (heldValueSS_l0 a ((length a) - 0 + 1) k0 0))

end
end Go.Proofs.Ytjcjpeckfikfkaa
