/-
  A part of the proof of this claim (AwT3): what functions of the program compute, and plain facts of that. No conditions.
-/
import Derived.Test.YtjcjpeckfikfkaaAwT2
set_option linter.all false
namespace Go.Proofs.Ytjcjpeckfikfkaa
open Go Go.Am
noncomputable section

def szValueS (a : List Val) (left : Int) : Int := (bif (decide ((left - ((List.length a : Nat) : Int)) < 0)) then (-1) else (left - ((List.length a : Nat) : Int)))

def szValueS_sp : FnSpec := mkSpec [.val (.slice (.named 1)), .val (.int .i64)] [.val (.int .i64)] (fun (a : List Val) (left : Int) => 0 ≤ left) (fun (a : List Val) (left : Int) => [⟨(.int .i64), (szValueS a left)⟩])

theorem szValueS_ok : FnOK Try.prog 69 szValueS_sp := by
 have hC : CtxOK Try.prog (mkCtx tyL []) := CtxOK.nil tyOK
 refine FnOK.of_body Try.func69 (by kernel_rfl) rfl (C := (mkCtx tyL [])) hC.ty (by kernel_rfl) ?_
 intro (a : List Val) (left : Int) hwf hpre E
 have hpre : 0 ≤ left := hpre
 have hw_a : Wf ⟨(.slice (.named 1)), (a : List Val)⟩ := hwf _ (List.Mem.head _)
 have hl_a : ((List.length a : Nat) : Int) ≤ 9223372036854775807 := hw_a.len
 have hw_left : Wf ⟨(.int .i64), (left : Int)⟩ := hwf _ (List.Mem.tail _ (List.Mem.head _))
 have hr_left : -9223372036854775808 ≤ left ∧ left ≤ 9223372036854775807 := hw_left.int_inv
 have e0 : szValueS a left = szValueS a left := rfl
 refine AW.seq (AW.r1 hC [0, 1] [] ⟨[(0, .data (.slice (.named 1)) (a : List Val)), (1, .int .i64 left)], []⟩ ?_)
 refine AW.seq (AW.r0 hC [1] [] ⟨[(1, .int .i64 (left - ((List.length a : Nat) : Int)))], []⟩ [(-9223372036854775808 ≤ (left - ((List.length a : Nat) : Int)) ∧ (left - ((List.length a : Nat) : Int)) ≤ 9223372036854775807)] ?_ ?_)
 ·
  refine ⟨?_, trivial⟩
  ·
   omega
 refine AW.seq (AW.seq (AW.r1 hC [1, 10] [] ⟨[(1, .int .i64 (left - ((List.length a : Nat) : Int))), (10, .bool (decide ((left - ((List.length a : Nat) : Int)) < 0)))], []⟩ ?_))
 refine AW.cd (decide ((left - ((List.length a : Nat) : Int)) < 0)) ?_ ?_
 ·
  intro h1
  have h1q : (left - ((List.length a : Nat) : Int)) < 0 := (of_decide_eq_true h1)
  have e2 := e0.trans (Go.Am.bif_t h1)
  refine AW.seq (AW.r1 hC [4] [] ⟨[(4, .int .i64 (-1))], []⟩ ?_)
  exact AW.ret (AW.retE (β := Int) (fun v => [⟨(.int .i64), v⟩]) (fun v => []) (v := (-1)) e2 (by kernel_rfl) rfl rfl)
 ·
  intro h3
  have h3q : ¬ ((left - ((List.length a : Nat) : Int)) < 0) := (of_decide_eq_false h3)
  have e4 := e0.trans (Go.Am.bif_f h3)
  refine AW.kp [1] [] ⟨[(1, .int .i64 (left - ((List.length a : Nat) : Int)))], []⟩ ?_
  refine AW.skip (AW.seq (AW.r1 hC [4] [] ⟨[(4, .int .i64 (left - ((List.length a : Nat) : Int)))], []⟩ ?_))
  exact AW.ret (AW.retE (β := Int) (fun v => [⟨(.int .i64), v⟩]) (fun v => []) (v := (left - ((List.length a : Nat) : Int))) e4 (by kernel_rfl) rfl rfl)

theorem szValueS_ge {a : List Val} {l : Int} (hl : 0 ≤ l) : -1 ≤ szValueS a l ∧ szValueS a l ≤ l := by
 unfold szValueS
 by_cases e : l - ((List.length a : Nat) : Int) < 0
 ·
  rw [decide_eq_true e, cond_true]
  omega
 ·
  rw [decide_eq_false e, cond_false]
  omega

def szValueSS_l0 (a : List (List Val)) : Nat → Int → Nat → Int ⊕ Int
 | 0, left1, i => .inl left1
 | k + 1, left1, i => (bif (decide (((i : Nat) : Int) < ((List.length a : Nat) : Int))) then (bif (decide ((szValueS (List.getD a i []) left1) < 0)) then (.inr (-1)) else (szValueSS_l0 a k (szValueS (List.getD a i []) left1) (i + 1))) else (.inl left1))

def szValueSS (a : List (List Val)) (left : Int) : Int := (bif (decide ((left - ((List.length a : Nat) : Int)) < 0)) then (-1) else (Sum.elim (fun z => (fun (left1 : Int) => left1) z) (fun r => r) (szValueSS_l0 a ((List.length a) - 0 + 1) (left - ((List.length a : Nat) : Int)) 0)))

def szValueSS_sp : FnSpec := mkSpec [.val (.slice (.slice (.named 1))), .val (.int .i64)] [.val (.int .i64)] (fun (a : List (List Val)) (left : Int) => 0 ≤ left) (fun (a : List (List Val)) (left : Int) => [⟨(.int .i64), (szValueSS a left)⟩])

theorem szValueSS_ok : FnOK Try.prog 20 szValueSS_sp := by
 have hC : CtxOK Try.prog (mkCtx tyL [(69, szValueS_sp)]) := CtxOK.cons szValueS_ok (CtxOK.nil tyOK)
 refine FnOK.of_body Try.func20 (by kernel_rfl) rfl (C := (mkCtx tyL [(69, szValueS_sp)])) hC.ty (by kernel_rfl) ?_
 intro (a : List (List Val)) (left : Int) hwf hpre E
 have hpre : 0 ≤ left := hpre
 have hw_a : Wf ⟨(.slice (.slice (.named 1))), (a : List (List Val))⟩ := hwf _ (List.Mem.head _)
 have hl_a : ((List.length a : Nat) : Int) ≤ 9223372036854775807 := hw_a.len
 have hw_left : Wf ⟨(.int .i64), (left : Int)⟩ := hwf _ (List.Mem.tail _ (List.Mem.head _))
 have hr_left : -9223372036854775808 ≤ left ∧ left ≤ 9223372036854775807 := hw_left.int_inv
 have e0 : szValueSS a left = szValueSS a left := rfl
 refine AW.seq (AW.r1 hC [0, 1] [] ⟨[(0, .data (.slice (.slice (.named 1))) (a : List (List Val))), (1, .int .i64 left)], []⟩ ?_)
 refine AW.seq (AW.r0 hC [0, 1] [] ⟨[(0, .data (.slice (.slice (.named 1))) (a : List (List Val))), (1, .int .i64 (left - ((List.length a : Nat) : Int)))], []⟩ [(-9223372036854775808 ≤ (left - ((List.length a : Nat) : Int)) ∧ (left - ((List.length a : Nat) : Int)) ≤ 9223372036854775807)] ?_ ?_)
 ·
  refine ⟨?_, trivial⟩
  ·
   omega
 refine AW.seq (AW.seq (AW.r1 hC [0, 1, 11] [] ⟨[(0, .data (.slice (.slice (.named 1))) (a : List (List Val))), (1, .int .i64 (left - ((List.length a : Nat) : Int))), (11, .bool (decide ((left - ((List.length a : Nat) : Int)) < 0)))], []⟩ ?_))
 refine AW.cd (decide ((left - ((List.length a : Nat) : Int)) < 0)) ?_ ?_
 ·
  intro h1
  have h1q : (left - ((List.length a : Nat) : Int)) < 0 := (of_decide_eq_true h1)
  have e2 := e0.trans (Go.Am.bif_t h1)
  refine AW.seq (AW.r1 hC [4] [] ⟨[(4, .int .i64 (-1))], []⟩ ?_)
  exact AW.ret (AW.retE (β := Int) (fun v => [⟨(.int .i64), v⟩]) (fun v => []) (v := (-1)) e2 (by kernel_rfl) rfl rfl)
 ·
  intro h3
  have h3q : ¬ ((left - ((List.length a : Nat) : Int)) < 0) := (of_decide_eq_false h3)
  have e4 := e0.trans (Go.Am.bif_f h3)
  refine AW.kp [0, 1] [] ⟨[(0, .data (.slice (.slice (.named 1))) (a : List (List Val))), (1, .int .i64 (left - ((List.length a : Nat) : Int)))], []⟩ ?_
  refine AW.skip (AW.seq (AW.seq (AW.r1 hC [0, 1, 5] [] ⟨[(0, .data (.slice (.slice (.named 1))) (a : List (List Val))), (1, .int .i64 (left - ((List.length a : Nat) : Int))), (5, .int .i64 0)], []⟩ ?_)))
  refine AW.cutQ (α := Int) (fun x => ⟨[(1, .int .i64 x)], []⟩) (fun x => (0 ≤ x) ∧ (szValueSS_l0 a ((List.length a) - 0 + 1) (left - ((List.length a : Nat) : Int)) 0) = (.inl x)) ?_ ?_
  ·
   skip
   refine AW.block (AW.loop (α := Int × Nat) (fun x => ⟨[(0, .data (.slice (.slice (.named 1))) (a : List (List Val))), (1, .int .i64 x.1), (5, .int .i64 ((x.2 : Nat) : Int))], []⟩) (fun x => (0 ≤ x.1) ∧ ∃ k, (List.length a) - x.2 < k ∧ (szValueSS_l0 a ((List.length a) - 0 + 1) (left - ((List.length a : Nat) : Int)) 0) = szValueSS_l0 a k x.1 x.2) (fun x => (List.length a) - x.2) ((left - ((List.length a : Nat) : Int)), 0) (by kernel_rfl) ⟨?_, _, Nat.lt_succ_self _, rfl⟩ ?_)
   ·
    show 0 ≤ (left - ((List.length a : Nat) : Int))
    omega
   ·
    intro x hR
    obtain ⟨left1, i⟩ := x
    obtain ⟨hI0, k34, hk32, e33⟩ := hR
    replace hI0 : 0 ≤ left1 := hI0
    replace hk32 : (List.length a) - i < k34 := hk32
    obtain ⟨k34q, rfl⟩ : ∃ k, k34 = k + 1 := ⟨k34 - 1, by omega⟩
    refine AW.seq (AW.seq (AW.r1 hC [0, 1, 5, 15] [] ⟨[(0, .data (.slice (.slice (.named 1))) (a : List (List Val))), (1, .int .i64 left1), (5, .int .i64 ((i : Nat) : Int)), (15, .bool (decide (((i : Nat) : Int) < ((List.length a : Nat) : Int))))], []⟩ ?_))
    refine AW.cd (decide (((i : Nat) : Int) < ((List.length a : Nat) : Int))) ?_ ?_
    ·
     intro h35
     have h35q : ((i : Nat) : Int) < ((List.length a : Nat) : Int) := (of_decide_eq_true h35)
     have e36 := e33.trans (Go.Am.bif_t h35)
     refine AW.kp [0, 1, 5] [] ⟨[(0, .data (.slice (.slice (.named 1))) (a : List (List Val))), (1, .int .i64 left1), (5, .int .i64 ((i : Nat) : Int))], []⟩ ?_
     refine AW.skip (AW.seq (AW.block (AW.seq (AW.r0 hC [0, 1, 5] [] ⟨[(0, .data (.slice (.slice (.named 1))) (a : List (List Val))), (1, .int .i64 (szValueS (List.getD a i []) left1)), (5, .int .i64 ((i : Nat) : Int))], []⟩ [(0 ≤ ((i : Nat) : Int) ∧ ((i : Nat) : Int) < ((List.length a : Nat) : Int)), (0 ≤ left1)] ?_ ?_))))
     ·
      refine ⟨?_, ?_, trivial⟩
      ·
       omega
      ·
       omega
     refine AW.seq (AW.r1 hC [0, 1, 5, 25] [] ⟨[(0, .data (.slice (.slice (.named 1))) (a : List (List Val))), (1, .int .i64 (szValueS (List.getD a i []) left1)), (5, .int .i64 ((i : Nat) : Int)), (25, .bool (decide ((szValueS (List.getD a i []) left1) < 0)))], []⟩ ?_)
     refine AW.cd (decide ((szValueS (List.getD a i []) left1) < 0)) ?_ ?_
     ·
      intro h37
      have h37q : (szValueS (List.getD a i []) left1) < 0 := (of_decide_eq_true h37)
      have e38 := e36.trans (Go.Am.bif_t h37)
      refine AW.seq (AW.r1 hC [4] [] ⟨[(4, .int .i64 (-1))], []⟩ ?_)
      refine AW.ret ?_
      have e39 := e4.trans (Go.Am.elim_r e38)
      exact AW.retE (β := Int) (fun v => [⟨(.int .i64), v⟩]) (fun v => []) (v := (-1)) e39 (by kernel_rfl) rfl rfl
     ·
      intro h40
      have h40q : ¬ ((szValueS (List.getD a i []) left1) < 0) := (of_decide_eq_false h40)
      have e41 := e36.trans (Go.Am.bif_f h40)
      refine AW.kp [0, 1, 5] [] ⟨[(0, .data (.slice (.slice (.named 1))) (a : List (List Val))), (1, .int .i64 (szValueS (List.getD a i []) left1)), (5, .int .i64 ((i : Nat) : Int))], []⟩ ?_
      refine AW.skip (AW.r0 hC [0, 1, 5] [] ⟨[(0, .data (.slice (.slice (.named 1))) (a : List (List Val))), (1, .int .i64 (szValueS (List.getD a i []) left1)), (5, .int .i64 ((i + 1 : Nat) : Int))], []⟩ [(-9223372036854775808 ≤ ((i + 1 : Nat) : Int) ∧ ((i + 1 : Nat) : Int) ≤ 9223372036854775807)] ?_ ?_)
      ·
       refine ⟨?_, trivial⟩
       ·
        omega
      refine AW.back (x := (left1, i)) ((szValueS (List.getD a i []) left1), i + 1) (by kernel_rfl) ⟨?_, k34q, ?_, e41⟩ ?_
      ·
       show 0 ≤ (szValueS (List.getD a i []) left1)
       exact Int.not_lt.1 h40q
      ·
       show (List.length a) - (i + 1) < k34q
       omega
      ·
       show (List.length a) - (i + 1) < (List.length a) - i
       omega
    ·
     intro h42
     have h42q : ¬ (((i : Nat) : Int) < ((List.length a : Nat) : Int)) := (of_decide_eq_false h42)
     have e43 := e33.trans (Go.Am.bif_f h42)
     refine AW.kp [1] [] ⟨[(1, .int .i64 left1)], []⟩ ?_
     refine AW.exit ?_
     refine AW.meet left1 (by kernel_rfl) ⟨?_, e43⟩
     show 0 ≤ left1
     assumption
  ·
   intro left1 hR
   obtain ⟨hJ0, e44⟩ := hR
   replace hJ0 : 0 ≤ left1 := hJ0
   have e45 := e4.trans (Go.Am.elim_l e44)
   refine AW.seq (AW.r1 hC [4] [] ⟨[(4, .int .i64 left1)], []⟩ ?_)
   exact AW.ret (AW.retE (β := Int) (fun v => [⟨(.int .i64), v⟩]) (fun v => []) (v := left1) e45 (by kernel_rfl) rfl rfl)

def szTable (a : Tab) (left : Int) : Int := (bif (decide ((szValueSS (Tab.Rows a) left) < 0)) then (-1) else (szValueSS (Tab.Rows a) left))

def szTable_sp : FnSpec := mkSpec [.val (.named 2), .val (.int .i64)] [.val (.int .i64)] (fun (a : Tab) (left : Int) => 0 ≤ left) (fun (a : Tab) (left : Int) => [⟨(.int .i64), (szTable a left)⟩])

theorem szTable_ok : FnOK Try.prog 34 szTable_sp := by
 have hC : CtxOK Try.prog (mkCtx tyL [(20, szValueSS_sp)]) := CtxOK.cons szValueSS_ok (CtxOK.nil tyOK)
 refine FnOK.of_body Try.func34 (by kernel_rfl) rfl (C := (mkCtx tyL [(20, szValueSS_sp)])) hC.ty (by kernel_rfl) ?_
 intro (a : Tab) (left : Int) hwf hpre E
 have hpre : 0 ≤ left := hpre
 have hw_a : Wf ⟨(.named 2), (a : Tab)⟩ := hwf _ (List.Mem.head _)
 have hr_a_Width : -9223372036854775808 ≤ Tab.Width a ∧ Tab.Width a ≤ 9223372036854775807 := (hw_a.field (tv := ⟨(.int .i64), Tab.Width a⟩) (List.Mem.head _)).int_inv
 have hl_a_Rows : ((List.length (Tab.Rows a) : Nat) : Int) ≤ 9223372036854775807 := (hw_a.field (tv := ⟨(.slice (.slice (.named 1))), Tab.Rows a⟩) (List.Mem.tail _ (List.Mem.head _))).len
 have hw_left : Wf ⟨(.int .i64), (left : Int)⟩ := hwf _ (List.Mem.tail _ (List.Mem.head _))
 have hr_left : -9223372036854775808 ≤ left ∧ left ≤ 9223372036854775807 := hw_left.int_inv
 have e0 : szTable a left = szTable a left := rfl
 refine AW.seq (AW.r1 hC [1, 2] [8] ⟨[(1, .int .i64 left), (2, .ref 8 1 0)], [(8, .box 1 [.int .i64 (Tab.Width a), .data (.slice (.slice (.named 1))) ((Tab.Rows a) : List (List Val))])]⟩ ?_)
 refine AW.seq (AW.r0 hC [1] [] ⟨[(1, .int .i64 (szValueSS (Tab.Rows a) left))], []⟩ [(0 ≤ left)] ?_ ?_)
 ·
  refine ⟨?_, trivial⟩
  ·
   omega
 refine AW.seq (AW.seq (AW.r1 hC [1, 10] [] ⟨[(1, .int .i64 (szValueSS (Tab.Rows a) left)), (10, .bool (decide ((szValueSS (Tab.Rows a) left) < 0)))], []⟩ ?_))
 refine AW.cd (decide ((szValueSS (Tab.Rows a) left) < 0)) ?_ ?_
 ·
  intro h1
  have h1q : (szValueSS (Tab.Rows a) left) < 0 := (of_decide_eq_true h1)
  have e2 := e0.trans (Go.Am.bif_t h1)
  refine AW.seq (AW.r1 hC [4] [] ⟨[(4, .int .i64 (-1))], []⟩ ?_)
  exact AW.ret (AW.retE (β := Int) (fun v => [⟨(.int .i64), v⟩]) (fun v => []) (v := (-1)) e2 (by kernel_rfl) rfl rfl)
 ·
  intro h3
  have h3q : ¬ ((szValueSS (Tab.Rows a) left) < 0) := (of_decide_eq_false h3)
  have e4 := e0.trans (Go.Am.bif_f h3)
  refine AW.kp [1] [] ⟨[(1, .int .i64 (szValueSS (Tab.Rows a) left))], []⟩ ?_
  refine AW.skip (AW.seq (AW.r1 hC [4] [] ⟨[(4, .int .i64 (szValueSS (Tab.Rows a) left))], []⟩ ?_))
  exact AW.ret (AW.retE (β := Int) (fun v => [⟨(.int .i64), v⟩]) (fun v => []) (v := (szValueSS (Tab.Rows a) left)) e4 (by kernel_rfl) rfl rfl)

def toValue (a : Val) : Val := a

def toValue_sp : FnSpec := mkSpec [.val (.named 1)] [.val (.named 1)] (fun (a : Val) => True) (fun (a : Val) => [⟨(.named 1), (toValue a)⟩])

theorem toValue_ok : FnOK Try.prog 102 toValue_sp := by
 have hC : CtxOK Try.prog (mkCtx tyL []) := CtxOK.nil tyOK
 refine FnOK.of_body Try.func102 (by kernel_rfl) rfl (C := (mkCtx tyL [])) hC.ty (by kernel_rfl) ?_
 intro (a : Val) hwf hpre E
 have hpre : True := hpre
 have hw_a : Wf ⟨(.named 1), (a : Val)⟩ := hwf _ (List.Mem.head _)
 have hr_a_N : -9223372036854775808 ≤ Val.N a ∧ Val.N a ≤ 9223372036854775807 := (hw_a.field (tv := ⟨(.int .i64), Val.N a⟩) (List.Mem.tail _ (List.Mem.head _))).int_inv
 have e0 : toValue a = toValue a := rfl
 refine AW.seq (AW.r1 hC [1, 2] [4, 8] ⟨[(1, .ref 4 1 0), (2, .ref 8 1 0)], [(4, .box 1 [.bool (Val.Null a), .int .i64 (Val.N a)]), (8, .box 1 [.bool false, .int .i64 0])]⟩ ?_)
 refine AW.seq (AW.r1 hC [1, 2, 3] [4, 8, 12] ⟨[(1, .ref 4 1 0), (2, .ref 8 1 0), (3, .ref 12 1 0)], [(4, .box 1 [.bool (Val.Null a), .int .i64 (Val.N a)]), (8, .box 1 [.bool false, .int .i64 0]), (12, .box 1 [.bool false, .int .i64 0])]⟩ ?_)
 refine AW.seq (AW.r1 hC [1, 2, 3] [4, 8, 12] ⟨[(1, .ref 4 1 0), (2, .ref 8 1 0), (3, .ref 12 1 0)], [(4, .box 1 [.bool (Val.Null a), .int .i64 (Val.N a)]), (8, .box 1 [.bool false, .int .i64 0]), (12, .box 1 [.bool (Val.Null a), .int .i64 0])]⟩ ?_)
 refine AW.seq (AW.r1 hC [2, 3] [8, 12] ⟨[(2, .ref 8 1 0), (3, .ref 12 1 0)], [(8, .box 1 [.bool false, .int .i64 0]), (12, .box 1 [.bool (Val.Null a), .int .i64 (Val.N a)])]⟩ ?_)
 refine AW.seq (AW.r1 hC [2] [8] ⟨[(2, .ref 8 1 0)], [(8, .box 1 [.bool (Val.Null a), .int .i64 (Val.N a)])]⟩ ?_)
 exact AW.ret (AW.retE (β := Val) (fun v => [⟨(.named 1), v⟩]) (fun v => []) (v := a) e0 (by kernel_rfl) rfl rfl)

def toValueS_l0 (a : List Val) : Nat → Nat → (List Val) → (List Val)
 | 0, i, out => out
 | k + 1, i, out => (bif (decide (((i : Nat) : Int) < ((List.length a : Nat) : Int))) then (toValueS_l0 a k (i + 1) (List.set out i (toValue (List.getD a i Val.zero)))) else out)

def toValueS (a : List Val) : (List Val) := (Go.Am.andThen (toValueS_l0 a ((List.length a) - 0 + 1) 0 (List.replicate (List.length a) Val.zero : List Val)) (fun z => (fun (out : List Val) => out) z))

def toValueS_sp : FnSpec := mkSpec [.val (.slice (.named 1))] [.own (.named 1)] (fun (a : List Val) => (List.length a : Int) ≤ 1048576) (fun (a : List Val) => [⟨(.slice (.named 1)), (toValueS a)⟩])

theorem toValueS_ok : FnOK Try.prog 70 toValueS_sp := by
 have hC : CtxOK Try.prog (mkCtx tyL [(102, toValue_sp)]) := CtxOK.cons toValue_ok (CtxOK.nil tyOK)
 refine FnOK.of_body Try.func70 (by kernel_rfl) rfl (C := (mkCtx tyL [(102, toValue_sp)])) hC.ty (by kernel_rfl) ?_
 intro (a : List Val) hwf hpre E
 have hpre : (List.length a : Int) ≤ 1048576 := hpre
 have hw_a : Wf ⟨(.slice (.named 1)), (a : List Val)⟩ := hwf _ (List.Mem.head _)
 have hl_a : ((List.length a : Nat) : Int) ≤ 9223372036854775807 := hw_a.len
 have e0 : toValueS a = toValueS a := rfl
 refine AW.seq (AW.r1 hC [0] [] ⟨[(0, .data (.slice (.named 1)) (a : List Val))], []⟩ ?_)
 refine AW.seq (AW.r0 hC [0, 3] [28] ⟨[(0, .data (.slice (.named 1)) (a : List Val)), (3, .arr 28 1)], [(28, .arr 1 (.named 1) ((List.replicate (List.length a) Val.zero : List Val) : List Val))]⟩ [(0 ≤ ((List.length a : Nat) : Int) ∧ ((List.length a : Nat) : Int) ≤ ((List.length a : Nat) : Int) ∧ ((List.length a : Nat) : Int) ≤ 4294967296)] ?_ ?_)
 ·
  refine ⟨?_, trivial⟩
  ·
   omega
 refine AW.seq (AW.seq (AW.r1 hC [0, 3, 4] [28] ⟨[(0, .data (.slice (.named 1)) (a : List Val)), (3, .arr 28 1), (4, .int .i64 0)], [(28, .arr 1 (.named 1) ((List.replicate (List.length a) Val.zero : List Val) : List Val))]⟩ ?_))
 refine AW.cutQ (α := (List Val)) (fun x => ⟨[(3, .arr 28 1)], [(28, .arr 1 (.named 1) (x : List Val))]⟩) (fun x => (x.length = (List.length a)) ∧ (toValueS_l0 a ((List.length a) - 0 + 1) 0 (List.replicate (List.length a) Val.zero : List Val)) = x) ?_ ?_
 ·
  skip
  refine AW.block (AW.loop (α := Nat × (List Val)) (fun x => ⟨[(0, .data (.slice (.named 1)) (a : List Val)), (3, .arr 28 1), (4, .int .i64 ((x.1 : Nat) : Int))], [(28, .arr 1 (.named 1) (x.2 : List Val))]⟩) (fun x => (x.2.length = (List.length a)) ∧ ∃ k, (List.length a) - x.1 < k ∧ (toValueS_l0 a ((List.length a) - 0 + 1) 0 (List.replicate (List.length a) Val.zero : List Val)) = toValueS_l0 a k x.1 x.2) (fun x => (List.length a) - x.1) (0, (List.replicate (List.length a) Val.zero : List Val)) (by kernel_rfl) ⟨?_, _, Nat.lt_succ_self _, rfl⟩ ?_)
  ·
   show (List.replicate (List.length a) Val.zero : List Val).length = (List.length a)
   simp
  ·
   intro x hR
   obtain ⟨i, out⟩ := x
   obtain ⟨hI0, k15, hk13, e14⟩ := hR
   replace hI0 : out.length = (List.length a) := hI0
   replace hk13 : (List.length a) - i < k15 := hk13
   obtain ⟨k15q, rfl⟩ : ∃ k, k15 = k + 1 := ⟨k15 - 1, by omega⟩
   refine AW.seq (AW.seq (AW.r1 hC [0, 3, 4, 11] [28] ⟨[(0, .data (.slice (.named 1)) (a : List Val)), (3, .arr 28 1), (4, .int .i64 ((i : Nat) : Int)), (11, .bool (decide (((i : Nat) : Int) < ((List.length a : Nat) : Int))))], [(28, .arr 1 (.named 1) (out : List Val))]⟩ ?_))
   refine AW.cd (decide (((i : Nat) : Int) < ((List.length a : Nat) : Int))) ?_ ?_
   ·
    intro h16
    have h16q : ((i : Nat) : Int) < ((List.length a : Nat) : Int) := (of_decide_eq_true h16)
    have e17 := e14.trans (Go.Am.bif_t h16)
    refine AW.kp [0, 3, 4] [28] ⟨[(0, .data (.slice (.named 1)) (a : List Val)), (3, .arr 28 1), (4, .int .i64 ((i : Nat) : Int))], [(28, .arr 1 (.named 1) (out : List Val))]⟩ ?_
    refine AW.skip (AW.seq (AW.block (AW.r0 hC [0, 3, 4] [28] ⟨[(0, .data (.slice (.named 1)) (a : List Val)), (3, .arr 28 1), (4, .int .i64 ((i : Nat) : Int))], [(28, .arr 1 (.named 1) ((List.set out i (toValue (List.getD a i Val.zero))) : List Val))]⟩ [(0 ≤ ((i : Nat) : Int) ∧ ((i : Nat) : Int) < ((List.length a : Nat) : Int)), (True), (0 ≤ ((i : Nat) : Int) ∧ ((i : Nat) : Int) < ((List.length out : Nat) : Int))] ?_ ?_)))
    ·
     refine ⟨?_, ?_, ?_, trivial⟩
     ·
      omega
     ·
      trivial
     ·
      omega
    refine AW.r0 hC [0, 3, 4] [28] ⟨[(0, .data (.slice (.named 1)) (a : List Val)), (3, .arr 28 1), (4, .int .i64 ((i + 1 : Nat) : Int))], [(28, .arr 1 (.named 1) ((List.set out i (toValue (List.getD a i Val.zero))) : List Val))]⟩ [(-9223372036854775808 ≤ ((i + 1 : Nat) : Int) ∧ ((i + 1 : Nat) : Int) ≤ 9223372036854775807)] ?_ ?_
    ·
     refine ⟨?_, trivial⟩
     ·
      omega
    refine AW.back (x := (i, out)) (i + 1, (List.set out i (toValue (List.getD a i Val.zero)))) (by kernel_rfl) ⟨?_, k15q, ?_, e17⟩ ?_
    ·
     show (List.set out i (toValue (List.getD a i Val.zero))).length = (List.length a)
     simp only [lens] at *; omega
    ·
     show (List.length a) - (i + 1) < k15q
     omega
    ·
     show (List.length a) - (i + 1) < (List.length a) - i
     omega
   ·
    intro h18
    have h18q : ¬ (((i : Nat) : Int) < ((List.length a : Nat) : Int)) := (of_decide_eq_false h18)
    have e19 := e14.trans (Go.Am.bif_f h18)
    refine AW.kp [3] [28] ⟨[(3, .arr 28 1)], [(28, .arr 1 (.named 1) (out : List Val))]⟩ ?_
    refine AW.exit ?_
    refine AW.meet out (by kernel_rfl) ⟨?_, e19⟩
    show out.length = (List.length a)
    assumption
 ·
  intro out hR
  obtain ⟨hJ0, e20⟩ := hR
  replace hJ0 : out.length = (List.length a) := hJ0
  have e21 := e0.trans (Go.Am.then_eq e20)
  refine AW.seq (AW.r1 hC [2] [28] ⟨[(2, .arr 28 1)], [(28, .arr 1 (.named 1) (out : List Val))]⟩ ?_)
  exact AW.ret (AW.retE (β := (List Val)) (fun v => [⟨(.slice (.named 1)), v⟩]) (fun v => []) (v := out) e21 (by kernel_rfl) rfl rfl)

def toValueSS_l0 (a : List (List Val)) : Nat → Nat → (List (List Val)) → (List (List Val))
 | 0, i, out => out
 | k + 1, i, out => (bif (decide (((i : Nat) : Int) < ((List.length a : Nat) : Int))) then (toValueSS_l0 a k (i + 1) (List.set out i (toValueS (List.getD a i [])))) else out)

def toValueSS (a : List (List Val)) : (List (List Val)) := (Go.Am.andThen (toValueSS_l0 a ((List.length a) - 0 + 1) 0 (List.replicate (List.length a) [] : List (List Val))) (fun z => (fun (out : List (List Val)) => out) z))

def toValueSS_sp : FnSpec := mkSpec [.val (.slice (.slice (.named 1)))] [.deep (.slice (.slice (.named 1)))] (fun (a : List (List Val)) => (List.length a : Int) ≤ 1048576 ∧ ∀ i : Nat, i < List.length a → (List.length (List.getD a i []) : Int) ≤ 1048576) (fun (a : List (List Val)) => [⟨(.slice (.slice (.named 1))), (toValueSS a)⟩])

theorem toValueSS_ok : FnOK Try.prog 21 toValueSS_sp := by
 have hC : CtxOK Try.prog { (mkCtx tyL [(70, toValueS_sp)]) with deep := true } := CtxOK.deepen (CtxOK.cons toValueS_ok (CtxOK.nil tyOK))
 refine FnOK.of_body Try.func21 (by kernel_rfl) rfl (C := { (mkCtx tyL [(70, toValueS_sp)]) with deep := true }) hC.ty (by kernel_rfl) ?_
 intro (a : List (List Val)) hwf hpre E
 have hpre : (List.length a : Int) ≤ 1048576 ∧ ∀ i : Nat, i < List.length a → (List.length (List.getD a i []) : Int) ≤ 1048576 := hpre
 have hw_a : Wf ⟨(.slice (.slice (.named 1))), (a : List (List Val))⟩ := hwf _ (List.Mem.head _)
 have hl_a : ((List.length a : Nat) : Int) ≤ 9223372036854775807 := hw_a.len
 have e0 : toValueSS a = toValueSS a := rfl
 refine AW.seq (AW.r1 hC [0] [] ⟨[(0, .data (.slice (.slice (.named 1))) (a : List (List Val)))], []⟩ ?_)
 refine AW.seq (AW.r0 hC [0, 3] [28] ⟨[(0, .data (.slice (.slice (.named 1))) (a : List (List Val))), (3, .tr 28 1)], [(28, .tree 1 (.slice (.named 1)) ((List.replicate (List.length a) [] : List (List Val)) : List (List Val)))]⟩ [(0 ≤ ((List.length a : Nat) : Int) ∧ ((List.length a : Nat) : Int) ≤ ((List.length a : Nat) : Int) ∧ ((List.length a : Nat) : Int) ≤ 4294967296)] ?_ ?_)
 ·
  refine ⟨?_, trivial⟩
  ·
   omega
 refine AW.seq (AW.seq (AW.r1 hC [0, 3, 4] [28] ⟨[(0, .data (.slice (.slice (.named 1))) (a : List (List Val))), (3, .tr 28 1), (4, .int .i64 0)], [(28, .tree 1 (.slice (.named 1)) ((List.replicate (List.length a) [] : List (List Val)) : List (List Val)))]⟩ ?_))
 refine AW.cutQ (α := (List (List Val))) (fun x => ⟨[(3, .tr 28 1)], [(28, .tree 1 (.slice (.named 1)) (x : List (List Val)))]⟩) (fun x => (x.length = (List.length a)) ∧ (toValueSS_l0 a ((List.length a) - 0 + 1) 0 (List.replicate (List.length a) [] : List (List Val))) = x) ?_ ?_
 ·
  skip
  refine AW.block (AW.loop (α := Nat × (List (List Val))) (fun x => ⟨[(0, .data (.slice (.slice (.named 1))) (a : List (List Val))), (3, .tr 28 1), (4, .int .i64 ((x.1 : Nat) : Int))], [(28, .tree 1 (.slice (.named 1)) (x.2 : List (List Val)))]⟩) (fun x => (x.2.length = (List.length a)) ∧ ∃ k, (List.length a) - x.1 < k ∧ (toValueSS_l0 a ((List.length a) - 0 + 1) 0 (List.replicate (List.length a) [] : List (List Val))) = toValueSS_l0 a k x.1 x.2) (fun x => (List.length a) - x.1) (0, (List.replicate (List.length a) [] : List (List Val))) (by kernel_rfl) ⟨?_, _, Nat.lt_succ_self _, rfl⟩ ?_)
  ·
   show (List.replicate (List.length a) [] : List (List Val)).length = (List.length a)
   simp
  ·
   intro x hR
   obtain ⟨i, out⟩ := x
   obtain ⟨hI0, k15, hk13, e14⟩ := hR
   replace hI0 : out.length = (List.length a) := hI0
   replace hk13 : (List.length a) - i < k15 := hk13
   obtain ⟨k15q, rfl⟩ : ∃ k, k15 = k + 1 := ⟨k15 - 1, by omega⟩
   refine AW.seq (AW.seq (AW.r1 hC [0, 3, 4, 11] [28] ⟨[(0, .data (.slice (.slice (.named 1))) (a : List (List Val))), (3, .tr 28 1), (4, .int .i64 ((i : Nat) : Int)), (11, .bool (decide (((i : Nat) : Int) < ((List.length a : Nat) : Int))))], [(28, .tree 1 (.slice (.named 1)) (out : List (List Val)))]⟩ ?_))
   refine AW.cd (decide (((i : Nat) : Int) < ((List.length a : Nat) : Int))) ?_ ?_
   ·
    intro h16
    have h16q : ((i : Nat) : Int) < ((List.length a : Nat) : Int) := (of_decide_eq_true h16)
    have e17 := e14.trans (Go.Am.bif_t h16)
    refine AW.kp [0, 3, 4] [28] ⟨[(0, .data (.slice (.slice (.named 1))) (a : List (List Val))), (3, .tr 28 1), (4, .int .i64 ((i : Nat) : Int))], [(28, .tree 1 (.slice (.named 1)) (out : List (List Val)))]⟩ ?_
    refine AW.skip (AW.seq (AW.block (AW.r0 hC [0, 3, 4] [28] ⟨[(0, .data (.slice (.slice (.named 1))) (a : List (List Val))), (3, .tr 28 1), (4, .int .i64 ((i : Nat) : Int))], [(28, .tree 1 (.slice (.named 1)) ((List.set out i (toValueS (List.getD a i []))) : List (List Val)))]⟩ [(0 ≤ ((i : Nat) : Int) ∧ ((i : Nat) : Int) < ((List.length a : Nat) : Int)), ((List.length (List.getD a i []) : Int) ≤ 1048576), (0 ≤ ((i : Nat) : Int) ∧ ((i : Nat) : Int) < ((List.length out : Nat) : Int))] ?_ ?_)))
    ·
     refine ⟨?_, ?_, ?_, trivial⟩
     ·
      omega
     ·
      exact hpre.2 i (by omega)
     ·
      omega
    refine AW.r0 hC [0, 3, 4] [28] ⟨[(0, .data (.slice (.slice (.named 1))) (a : List (List Val))), (3, .tr 28 1), (4, .int .i64 ((i + 1 : Nat) : Int))], [(28, .tree 1 (.slice (.named 1)) ((List.set out i (toValueS (List.getD a i []))) : List (List Val)))]⟩ [(-9223372036854775808 ≤ ((i + 1 : Nat) : Int) ∧ ((i + 1 : Nat) : Int) ≤ 9223372036854775807)] ?_ ?_
    ·
     refine ⟨?_, trivial⟩
     ·
      omega
    refine AW.back (x := (i, out)) (i + 1, (List.set out i (toValueS (List.getD a i [])))) (by kernel_rfl) ⟨?_, k15q, ?_, e17⟩ ?_
    ·
     show (List.set out i (toValueS (List.getD a i []))).length = (List.length a)
     simp only [lens] at *; omega
    ·
     show (List.length a) - (i + 1) < k15q
     omega
    ·
     show (List.length a) - (i + 1) < (List.length a) - i
     omega
   ·
    intro h18
    have h18q : ¬ (((i : Nat) : Int) < ((List.length a : Nat) : Int)) := (of_decide_eq_false h18)
    have e19 := e14.trans (Go.Am.bif_f h18)
    refine AW.kp [3] [28] ⟨[(3, .tr 28 1)], [(28, .tree 1 (.slice (.named 1)) (out : List (List Val)))]⟩ ?_
    refine AW.exit ?_
    refine AW.meet out (by kernel_rfl) ⟨?_, e19⟩
    show out.length = (List.length a)
    assumption
 ·
  intro out hR
  obtain ⟨hJ0, e20⟩ := hR
  replace hJ0 : out.length = (List.length a) := hJ0
  have e21 := e0.trans (Go.Am.then_eq e20)
  refine AW.seq (AW.r1 hC [2] [28] ⟨[(2, .tr 28 1)], [(28, .tree 1 (.slice (.named 1)) (out : List (List Val)))]⟩ ?_)
  exact AW.ret (AW.retE (β := (List (List Val))) (fun v => [⟨(.slice (.slice (.named 1))), v⟩]) (fun v => []) (v := out) e21 (by kernel_rfl) rfl rfl)

def toTable (a : Tab) : Tab := (Tab.mk (Tab.Width a) (toValueSS (Tab.Rows a)))

def toTable_sp : FnSpec := mkSpec [.val (.named 2)] [.deep (.named 2)] (fun (a : Tab) => (List.length a.Rows : Int) ≤ 1048576 ∧ ∀ i : Nat, i < List.length a.Rows → (List.length (List.getD a.Rows i []) : Int) ≤ 1048576) (fun (a : Tab) => [⟨(.named 2), (toTable a)⟩])

theorem toTable_ok : FnOK Try.prog 35 toTable_sp := by
 have hC : CtxOK Try.prog { (mkCtx tyL [(21, toValueSS_sp)]) with deep := true } := CtxOK.deepen (CtxOK.cons toValueSS_ok (CtxOK.nil tyOK))
 refine FnOK.of_body Try.func35 (by kernel_rfl) rfl (C := { (mkCtx tyL [(21, toValueSS_sp)]) with deep := true }) hC.ty (by kernel_rfl) ?_
 intro (a : Tab) hwf hpre E
 have hpre : (List.length a.Rows : Int) ≤ 1048576 ∧ ∀ i : Nat, i < List.length a.Rows → (List.length (List.getD a.Rows i []) : Int) ≤ 1048576 := hpre
 have hw_a : Wf ⟨(.named 2), (a : Tab)⟩ := hwf _ (List.Mem.head _)
 have hr_a_Width : -9223372036854775808 ≤ Tab.Width a ∧ Tab.Width a ≤ 9223372036854775807 := (hw_a.field (tv := ⟨(.int .i64), Tab.Width a⟩) (List.Mem.head _)).int_inv
 have hl_a_Rows : ((List.length (Tab.Rows a) : Nat) : Int) ≤ 9223372036854775807 := (hw_a.field (tv := ⟨(.slice (.slice (.named 1))), Tab.Rows a⟩) (List.Mem.tail _ (List.Mem.head _))).len
 have e0 : toTable a = toTable a := rfl
 refine AW.seq (AW.r1 hC [1, 2] [4, 8] ⟨[(1, .ref 4 1 0), (2, .ref 8 1 0)], [(4, .box 1 [.int .i64 (Tab.Width a), .data (.slice (.slice (.named 1))) ((Tab.Rows a) : List (List Val))]), (8, .box 1 [.int .i64 0, .nilsl])]⟩ ?_)
 refine AW.seq (AW.r1 hC [1, 2, 3] [4, 8, 12] ⟨[(1, .ref 4 1 0), (2, .ref 8 1 0), (3, .ref 12 1 0)], [(4, .box 1 [.int .i64 (Tab.Width a), .data (.slice (.slice (.named 1))) ((Tab.Rows a) : List (List Val))]), (8, .box 1 [.int .i64 0, .nilsl]), (12, .box 1 [.int .i64 0, .nilsl])]⟩ ?_)
 refine AW.seq (AW.r1 hC [1, 2, 3] [4, 8, 12] ⟨[(1, .ref 4 1 0), (2, .ref 8 1 0), (3, .ref 12 1 0)], [(4, .box 1 [.int .i64 (Tab.Width a), .data (.slice (.slice (.named 1))) ((Tab.Rows a) : List (List Val))]), (8, .box 1 [.int .i64 0, .nilsl]), (12, .box 1 [.int .i64 (Tab.Width a), .nilsl])]⟩ ?_)
 refine AW.seq (AW.r0 hC [2, 3] [8, 12, 36] ⟨[(2, .ref 8 1 0), (3, .ref 12 1 0)], [(8, .box 1 [.int .i64 0, .nilsl]), (12, .box 1 [.int .i64 (Tab.Width a), .tr 36 1]), (36, .tree 1 (.slice (.named 1)) ((toValueSS (Tab.Rows a)) : List (List Val)))]⟩ [((List.length (Tab.Rows a) : Int) ≤ 1048576 ∧ ∀ i : Nat, i < List.length (Tab.Rows a) → (List.length (List.getD (Tab.Rows a) i []) : Int) ≤ 1048576)] ?_ ?_)
 ·
  refine ⟨?_, trivial⟩
  ·
   omega
 refine AW.seq (AW.r1 hC [2] [8, 36] ⟨[(2, .ref 8 1 0)], [(8, .box 1 [.int .i64 (Tab.Width a), .tr 36 1]), (36, .tree 1 (.slice (.named 1)) ((toValueSS (Tab.Rows a)) : List (List Val)))]⟩ ?_)
 exact AW.ret (AW.retE (β := Tab) (fun v => [⟨(.named 2), v⟩]) (fun v => []) (v := (Tab.mk (Tab.Width a) (toValueSS (Tab.Rows a)))) e0 (by kernel_rfl) rfl rfl)

def eqValue (a : Val) (b : Val) : Bool := (bif ((Val.Null a) != (Val.Null b)) then false else (bif ((Val.N a) != (Val.N b)) then false else true))

def eqValue_sp : FnSpec := mkSpec [.val (.named 1), .val (.named 1)] [.val .bool] (fun (a : Val) (b : Val) => True) (fun (a : Val) (b : Val) => [⟨.bool, (eqValue a b)⟩])

theorem eqValue_ok : FnOK Try.prog 103 eqValue_sp := by
 have hC : CtxOK Try.prog (mkCtx tyL []) := CtxOK.nil tyOK
 refine FnOK.of_body Try.func103 (by kernel_rfl) rfl (C := (mkCtx tyL [])) hC.ty (by kernel_rfl) ?_
 intro (a : Val) (b : Val) hwf hpre E
 have hpre : True := hpre
 have hw_a : Wf ⟨(.named 1), (a : Val)⟩ := hwf _ (List.Mem.head _)
 have hr_a_N : -9223372036854775808 ≤ Val.N a ∧ Val.N a ≤ 9223372036854775807 := (hw_a.field (tv := ⟨(.int .i64), Val.N a⟩) (List.Mem.tail _ (List.Mem.head _))).int_inv
 have hw_b : Wf ⟨(.named 1), (b : Val)⟩ := hwf _ (List.Mem.tail _ (List.Mem.head _))
 have hr_b_N : -9223372036854775808 ≤ Val.N b ∧ Val.N b ≤ 9223372036854775807 := (hw_b.field (tv := ⟨(.int .i64), Val.N b⟩) (List.Mem.tail _ (List.Mem.head _))).int_inv
 have e0 : eqValue a b = eqValue a b := rfl
 refine AW.seq (AW.r1 hC [2, 3] [8, 12] ⟨[(2, .ref 8 1 0), (3, .ref 12 1 0)], [(8, .box 1 [.bool (Val.Null a), .int .i64 (Val.N a)]), (12, .box 1 [.bool (Val.Null b), .int .i64 (Val.N b)])]⟩ ?_)
 refine AW.seq (AW.seq (AW.r1 hC [2, 3, 9] [8, 12] ⟨[(2, .ref 8 1 0), (3, .ref 12 1 0), (9, .bool ((Val.Null a) != (Val.Null b)))], [(8, .box 1 [.bool (Val.Null a), .int .i64 (Val.N a)]), (12, .box 1 [.bool (Val.Null b), .int .i64 (Val.N b)])]⟩ ?_))
 refine AW.cd ((Val.Null a) != (Val.Null b)) ?_ ?_
 ·
  intro h1
  have h1q : ((Val.Null a) != (Val.Null b)) = true := h1
  have e2 := e0.trans (Go.Am.bif_t h1)
  refine AW.seq (AW.r1 hC [4] [] ⟨[(4, .bool false)], []⟩ ?_)
  exact AW.ret (AW.retE (β := Bool) (fun v => [⟨.bool, v⟩]) (fun v => []) (v := false) e2 (by kernel_rfl) rfl rfl)
 ·
  intro h3
  have h3q : ((Val.Null a) != (Val.Null b)) = false := h3
  have e4 := e0.trans (Go.Am.bif_f h3)
  refine AW.kp [2, 3] [8, 12] ⟨[(2, .ref 8 1 0), (3, .ref 12 1 0)], [(8, .box 1 [.bool (Val.Null a), .int .i64 (Val.N a)]), (12, .box 1 [.bool (Val.Null b), .int .i64 (Val.N b)])]⟩ ?_
  refine AW.skip (AW.seq (AW.seq (AW.r1 hC [14] [] ⟨[(14, .bool ((Val.N a) != (Val.N b)))], []⟩ ?_)))
  refine AW.cd ((Val.N a) != (Val.N b)) ?_ ?_
  ·
   intro h5
   have h5q : (Val.N a) ≠ (Val.N b) := (Go.Am.bne_pos h5)
   have e6 := e4.trans (Go.Am.bif_t h5)
   refine AW.seq (AW.r1 hC [4] [] ⟨[(4, .bool false)], []⟩ ?_)
   exact AW.ret (AW.retE (β := Bool) (fun v => [⟨.bool, v⟩]) (fun v => []) (v := false) e6 (by kernel_rfl) rfl rfl)
  ·
   intro h7
   have h7q : (Val.N a) = (Val.N b) := (Go.Am.bne_neg h7)
   have e8 := e4.trans (Go.Am.bif_f h7)
   refine AW.kp [] [] ⟨[], []⟩ ?_
   refine AW.skip (AW.seq (AW.r1 hC [4] [] ⟨[(4, .bool true)], []⟩ ?_))
   exact AW.ret (AW.retE (β := Bool) (fun v => [⟨.bool, v⟩]) (fun v => []) (v := true) e8 (by kernel_rfl) rfl rfl)

def eqValueS_l0 (a : List Val) (b : List Val) : Nat → Nat → Unit ⊕ Bool
 | 0, i => .inl ()
 | k + 1, i => (bif (decide (((i : Nat) : Int) < ((List.length a : Nat) : Int))) then (bif (!(eqValue (List.getD a i Val.zero) (List.getD b i Val.zero))) then (.inr false) else (eqValueS_l0 a b k (i + 1))) else (.inl ()))

def eqValueS (a : List Val) (b : List Val) : Bool := (bif (((List.length a : Nat) : Int) != ((List.length b : Nat) : Int)) then false else (Sum.elim (fun _ => true) (fun r => r) (eqValueS_l0 a b ((List.length a) - 0 + 1) 0)))

def eqValueS_sp : FnSpec := mkSpec [.val (.slice (.named 1)), .val (.slice (.named 1))] [.val .bool] (fun (a : List Val) (b : List Val) => True) (fun (a : List Val) (b : List Val) => [⟨.bool, (eqValueS a b)⟩])

theorem eqValueS_ok : FnOK Try.prog 71 eqValueS_sp := by
 have hC : CtxOK Try.prog (mkCtx tyL [(103, eqValue_sp)]) := CtxOK.cons eqValue_ok (CtxOK.nil tyOK)
 have hM : Try.prog.follows .mixedOrders = true := Try.checked.mixed
 refine FnOK.of_body Try.func71 (by kernel_rfl) rfl (C := (mkCtx tyL [(103, eqValue_sp)])) hC.ty (by kernel_rfl) ?_
 intro (a : List Val) (b : List Val) hwf hpre E
 have hpre : True := hpre
 have hw_a : Wf ⟨(.slice (.named 1)), (a : List Val)⟩ := hwf _ (List.Mem.head _)
 have hl_a : ((List.length a : Nat) : Int) ≤ 9223372036854775807 := hw_a.len
 have hw_b : Wf ⟨(.slice (.named 1)), (b : List Val)⟩ := hwf _ (List.Mem.tail _ (List.Mem.head _))
 have hl_b : ((List.length b : Nat) : Int) ≤ 9223372036854775807 := hw_b.len
 have e0 : eqValueS a b = eqValueS a b := rfl
 refine AW.seq (AW.r1 hC [0, 1] [] ⟨[(0, .data (.slice (.named 1)) (a : List Val)), (1, .data (.slice (.named 1)) (b : List Val))], []⟩ ?_)
 refine AW.seq (AW.seq (AW.r1 hC [0, 1, 10] [] ⟨[(0, .data (.slice (.named 1)) (a : List Val)), (1, .data (.slice (.named 1)) (b : List Val)), (10, .bool (((List.length a : Nat) : Int) != ((List.length b : Nat) : Int)))], []⟩ ?_))
 refine AW.cd (((List.length a : Nat) : Int) != ((List.length b : Nat) : Int)) ?_ ?_
 ·
  intro h1
  have h1q : ((List.length a : Nat) : Int) ≠ ((List.length b : Nat) : Int) := (Go.Am.bne_pos h1)
  have e2 := e0.trans (Go.Am.bif_t h1)
  refine AW.seq (AW.r1 hC [4] [] ⟨[(4, .bool false)], []⟩ ?_)
  exact AW.ret (AW.retE (β := Bool) (fun v => [⟨.bool, v⟩]) (fun v => []) (v := false) e2 (by kernel_rfl) rfl rfl)
 ·
  intro h3
  have h3q : ((List.length a : Nat) : Int) = ((List.length b : Nat) : Int) := (Go.Am.bne_neg h3)
  have e4 := e0.trans (Go.Am.bif_f h3)
  refine AW.kp [0, 1] [] ⟨[(0, .data (.slice (.named 1)) (a : List Val)), (1, .data (.slice (.named 1)) (b : List Val))], []⟩ ?_
  refine AW.skip (AW.seq (AW.seq (AW.r1 hC [0, 1, 5] [] ⟨[(0, .data (.slice (.named 1)) (a : List Val)), (1, .data (.slice (.named 1)) (b : List Val)), (5, .int .i64 0)], []⟩ ?_)))
  refine AW.cutQ (α := Unit) (fun x => ⟨[], []⟩) (fun x => (True) ∧ (eqValueS_l0 a b ((List.length a) - 0 + 1) 0) = (.inl ())) ?_ ?_
  ·
   skip
   refine AW.block (AW.loop (α := Nat) (fun x => ⟨[(0, .data (.slice (.named 1)) (a : List Val)), (1, .data (.slice (.named 1)) (b : List Val)), (5, .int .i64 ((x : Nat) : Int))], []⟩) (fun x => (True) ∧ ∃ k, (List.length a) - x < k ∧ (eqValueS_l0 a b ((List.length a) - 0 + 1) 0) = eqValueS_l0 a b k x) (fun x => (List.length a) - x) 0 (by kernel_rfl) ⟨?_, _, Nat.lt_succ_self _, rfl⟩ ?_)
   ·
    show True
    exact trivial
   ·
    intro i hR
    obtain ⟨hI0, k34, hk32, e33⟩ := hR
    replace hI0 : True := hI0
    replace hk32 : (List.length a) - i < k34 := hk32
    obtain ⟨k34q, rfl⟩ : ∃ k, k34 = k + 1 := ⟨k34 - 1, by omega⟩
    refine AW.seq (AW.seq (AW.r1 hC [0, 1, 5, 14] [] ⟨[(0, .data (.slice (.named 1)) (a : List Val)), (1, .data (.slice (.named 1)) (b : List Val)), (5, .int .i64 ((i : Nat) : Int)), (14, .bool (decide (((i : Nat) : Int) < ((List.length a : Nat) : Int))))], []⟩ ?_))
    refine AW.cd (decide (((i : Nat) : Int) < ((List.length a : Nat) : Int))) ?_ ?_
    ·
     intro h35
     have h35q : ((i : Nat) : Int) < ((List.length a : Nat) : Int) := (of_decide_eq_true h35)
     have e36 := e33.trans (Go.Am.bif_t h35)
     refine AW.kp [0, 1, 5] [] ⟨[(0, .data (.slice (.named 1)) (a : List Val)), (1, .data (.slice (.named 1)) (b : List Val)), (5, .int .i64 ((i : Nat) : Int))], []⟩ ?_
     refine AW.skip (AW.seq (AW.block (AW.seq (AW.d0 hC hM [0, 1, 5, 26] [] ⟨[(0, .data (.slice (.named 1)) (a : List Val)), (1, .data (.slice (.named 1)) (b : List Val)), (5, .int .i64 ((i : Nat) : Int)), (26, .bool (!(eqValue (List.getD a i Val.zero) (List.getD b i Val.zero))))], []⟩ [(0 ≤ ((i : Nat) : Int) ∧ ((i : Nat) : Int) < ((List.length a : Nat) : Int)), (0 ≤ ((i : Nat) : Int) ∧ ((i : Nat) : Int) < ((List.length b : Nat) : Int)), (True)] ?_ ?_))))
     ·
      refine ⟨?_, ?_, ?_, trivial⟩
      ·
       omega
      ·
       omega
      ·
       trivial
     refine AW.cd (!(eqValue (List.getD a i Val.zero) (List.getD b i Val.zero))) ?_ ?_
     ·
      intro h37
      have h37q : (eqValue (List.getD a i Val.zero) (List.getD b i Val.zero)) = false := (Go.Am.not_pos h37)
      have e38 := e36.trans (Go.Am.bif_t h37)
      refine AW.seq (AW.r1 hC [4] [] ⟨[(4, .bool false)], []⟩ ?_)
      refine AW.ret ?_
      have e39 := e4.trans (Go.Am.elim_r e38)
      exact AW.retE (β := Bool) (fun v => [⟨.bool, v⟩]) (fun v => []) (v := false) e39 (by kernel_rfl) rfl rfl
     ·
      intro h40
      have h40q : (eqValue (List.getD a i Val.zero) (List.getD b i Val.zero)) = true := (Go.Am.not_neg h40)
      have e41 := e36.trans (Go.Am.bif_f h40)
      refine AW.kp [0, 1, 5] [] ⟨[(0, .data (.slice (.named 1)) (a : List Val)), (1, .data (.slice (.named 1)) (b : List Val)), (5, .int .i64 ((i : Nat) : Int))], []⟩ ?_
      refine AW.skip (AW.r0 hC [0, 1, 5] [] ⟨[(0, .data (.slice (.named 1)) (a : List Val)), (1, .data (.slice (.named 1)) (b : List Val)), (5, .int .i64 ((i + 1 : Nat) : Int))], []⟩ [(-9223372036854775808 ≤ ((i + 1 : Nat) : Int) ∧ ((i + 1 : Nat) : Int) ≤ 9223372036854775807)] ?_ ?_)
      ·
       refine ⟨?_, trivial⟩
       ·
        omega
      refine AW.back (x := i) (i + 1) (by kernel_rfl) ⟨?_, k34q, ?_, e41⟩ ?_
      ·
       show True
       assumption
      ·
       show (List.length a) - (i + 1) < k34q
       omega
      ·
       show (List.length a) - (i + 1) < (List.length a) - i
       omega
    ·
     intro h42
     have h42q : ¬ (((i : Nat) : Int) < ((List.length a : Nat) : Int)) := (of_decide_eq_false h42)
     have e43 := e33.trans (Go.Am.bif_f h42)
     refine AW.kp [] [] ⟨[], []⟩ ?_
     refine AW.exit ?_
     refine AW.meet () (by kernel_rfl) ⟨?_, e43⟩
     show True
     assumption
  ·
   intro x hR
   obtain ⟨hJ0, e44⟩ := hR
   replace hJ0 : True := hJ0
   have e45 := e4.trans (Go.Am.elim_l e44)
   refine AW.seq (AW.r1 hC [4] [] ⟨[(4, .bool true)], []⟩ ?_)
   exact AW.ret (AW.retE (β := Bool) (fun v => [⟨.bool, v⟩]) (fun v => []) (v := true) e45 (by kernel_rfl) rfl rfl)

def eqValueSS_l0 (a : List (List Val)) (b : List (List Val)) : Nat → Nat → Unit ⊕ Bool
 | 0, i => .inl ()
 | k + 1, i => (bif (decide (((i : Nat) : Int) < ((List.length a : Nat) : Int))) then (bif (!(eqValueS (List.getD a i []) (List.getD b i []))) then (.inr false) else (eqValueSS_l0 a b k (i + 1))) else (.inl ()))

def eqValueSS (a : List (List Val)) (b : List (List Val)) : Bool := (bif (((List.length a : Nat) : Int) != ((List.length b : Nat) : Int)) then false else (Sum.elim (fun _ => true) (fun r => r) (eqValueSS_l0 a b ((List.length a) - 0 + 1) 0)))

def eqValueSS_sp : FnSpec := mkSpec [.val (.slice (.slice (.named 1))), .val (.slice (.slice (.named 1)))] [.val .bool] (fun (a : List (List Val)) (b : List (List Val)) => True) (fun (a : List (List Val)) (b : List (List Val)) => [⟨.bool, (eqValueSS a b)⟩])

theorem eqValueSS_ok : FnOK Try.prog 23 eqValueSS_sp := by
 have hC : CtxOK Try.prog (mkCtx tyL [(71, eqValueS_sp)]) := CtxOK.cons eqValueS_ok (CtxOK.nil tyOK)
 have hM : Try.prog.follows .mixedOrders = true := Try.checked.mixed
 refine FnOK.of_body Try.func23 (by kernel_rfl) rfl (C := (mkCtx tyL [(71, eqValueS_sp)])) hC.ty (by kernel_rfl) ?_
 intro (a : List (List Val)) (b : List (List Val)) hwf hpre E
 have hpre : True := hpre
 have hw_a : Wf ⟨(.slice (.slice (.named 1))), (a : List (List Val))⟩ := hwf _ (List.Mem.head _)
 have hl_a : ((List.length a : Nat) : Int) ≤ 9223372036854775807 := hw_a.len
 have hw_b : Wf ⟨(.slice (.slice (.named 1))), (b : List (List Val))⟩ := hwf _ (List.Mem.tail _ (List.Mem.head _))
 have hl_b : ((List.length b : Nat) : Int) ≤ 9223372036854775807 := hw_b.len
 have e0 : eqValueSS a b = eqValueSS a b := rfl
 refine AW.seq (AW.r1 hC [0, 1] [] ⟨[(0, .data (.slice (.slice (.named 1))) (a : List (List Val))), (1, .data (.slice (.slice (.named 1))) (b : List (List Val)))], []⟩ ?_)
 refine AW.seq (AW.seq (AW.r1 hC [0, 1, 10] [] ⟨[(0, .data (.slice (.slice (.named 1))) (a : List (List Val))), (1, .data (.slice (.slice (.named 1))) (b : List (List Val))), (10, .bool (((List.length a : Nat) : Int) != ((List.length b : Nat) : Int)))], []⟩ ?_))
 refine AW.cd (((List.length a : Nat) : Int) != ((List.length b : Nat) : Int)) ?_ ?_
 ·
  intro h1
  have h1q : ((List.length a : Nat) : Int) ≠ ((List.length b : Nat) : Int) := (Go.Am.bne_pos h1)
  have e2 := e0.trans (Go.Am.bif_t h1)
  refine AW.seq (AW.r1 hC [4] [] ⟨[(4, .bool false)], []⟩ ?_)
  exact AW.ret (AW.retE (β := Bool) (fun v => [⟨.bool, v⟩]) (fun v => []) (v := false) e2 (by kernel_rfl) rfl rfl)
 ·
  intro h3
  have h3q : ((List.length a : Nat) : Int) = ((List.length b : Nat) : Int) := (Go.Am.bne_neg h3)
  have e4 := e0.trans (Go.Am.bif_f h3)
  refine AW.kp [0, 1] [] ⟨[(0, .data (.slice (.slice (.named 1))) (a : List (List Val))), (1, .data (.slice (.slice (.named 1))) (b : List (List Val)))], []⟩ ?_
  refine AW.skip (AW.seq (AW.seq (AW.r1 hC [0, 1, 5] [] ⟨[(0, .data (.slice (.slice (.named 1))) (a : List (List Val))), (1, .data (.slice (.slice (.named 1))) (b : List (List Val))), (5, .int .i64 0)], []⟩ ?_)))
  refine AW.cutQ (α := Unit) (fun x => ⟨[], []⟩) (fun x => (True) ∧ (eqValueSS_l0 a b ((List.length a) - 0 + 1) 0) = (.inl ())) ?_ ?_
  ·
   skip
   refine AW.block (AW.loop (α := Nat) (fun x => ⟨[(0, .data (.slice (.slice (.named 1))) (a : List (List Val))), (1, .data (.slice (.slice (.named 1))) (b : List (List Val))), (5, .int .i64 ((x : Nat) : Int))], []⟩) (fun x => (True) ∧ ∃ k, (List.length a) - x < k ∧ (eqValueSS_l0 a b ((List.length a) - 0 + 1) 0) = eqValueSS_l0 a b k x) (fun x => (List.length a) - x) 0 (by kernel_rfl) ⟨?_, _, Nat.lt_succ_self _, rfl⟩ ?_)
   ·
    show True
    exact trivial
   ·
    intro i hR
    obtain ⟨hI0, k34, hk32, e33⟩ := hR
    replace hI0 : True := hI0
    replace hk32 : (List.length a) - i < k34 := hk32
    obtain ⟨k34q, rfl⟩ : ∃ k, k34 = k + 1 := ⟨k34 - 1, by omega⟩
    refine AW.seq (AW.seq (AW.r1 hC [0, 1, 5, 14] [] ⟨[(0, .data (.slice (.slice (.named 1))) (a : List (List Val))), (1, .data (.slice (.slice (.named 1))) (b : List (List Val))), (5, .int .i64 ((i : Nat) : Int)), (14, .bool (decide (((i : Nat) : Int) < ((List.length a : Nat) : Int))))], []⟩ ?_))
    refine AW.cd (decide (((i : Nat) : Int) < ((List.length a : Nat) : Int))) ?_ ?_
    ·
     intro h35
     have h35q : ((i : Nat) : Int) < ((List.length a : Nat) : Int) := (of_decide_eq_true h35)
     have e36 := e33.trans (Go.Am.bif_t h35)
     refine AW.kp [0, 1, 5] [] ⟨[(0, .data (.slice (.slice (.named 1))) (a : List (List Val))), (1, .data (.slice (.slice (.named 1))) (b : List (List Val))), (5, .int .i64 ((i : Nat) : Int))], []⟩ ?_
     refine AW.skip (AW.seq (AW.block (AW.seq (AW.d0 hC hM [0, 1, 5, 26] [] ⟨[(0, .data (.slice (.slice (.named 1))) (a : List (List Val))), (1, .data (.slice (.slice (.named 1))) (b : List (List Val))), (5, .int .i64 ((i : Nat) : Int)), (26, .bool (!(eqValueS (List.getD a i []) (List.getD b i []))))], []⟩ [(0 ≤ ((i : Nat) : Int) ∧ ((i : Nat) : Int) < ((List.length a : Nat) : Int)), (0 ≤ ((i : Nat) : Int) ∧ ((i : Nat) : Int) < ((List.length b : Nat) : Int)), (True)] ?_ ?_))))
     ·
      refine ⟨?_, ?_, ?_, trivial⟩
      ·
       omega
      ·
       omega
      ·
       trivial
     refine AW.cd (!(eqValueS (List.getD a i []) (List.getD b i []))) ?_ ?_
     ·
      intro h37
      have h37q : (eqValueS (List.getD a i []) (List.getD b i [])) = false := (Go.Am.not_pos h37)
      have e38 := e36.trans (Go.Am.bif_t h37)
      refine AW.seq (AW.r1 hC [4] [] ⟨[(4, .bool false)], []⟩ ?_)
      refine AW.ret ?_
      have e39 := e4.trans (Go.Am.elim_r e38)
      exact AW.retE (β := Bool) (fun v => [⟨.bool, v⟩]) (fun v => []) (v := false) e39 (by kernel_rfl) rfl rfl
     ·
      intro h40
      have h40q : (eqValueS (List.getD a i []) (List.getD b i [])) = true := (Go.Am.not_neg h40)
      have e41 := e36.trans (Go.Am.bif_f h40)
      refine AW.kp [0, 1, 5] [] ⟨[(0, .data (.slice (.slice (.named 1))) (a : List (List Val))), (1, .data (.slice (.slice (.named 1))) (b : List (List Val))), (5, .int .i64 ((i : Nat) : Int))], []⟩ ?_
      refine AW.skip (AW.r0 hC [0, 1, 5] [] ⟨[(0, .data (.slice (.slice (.named 1))) (a : List (List Val))), (1, .data (.slice (.slice (.named 1))) (b : List (List Val))), (5, .int .i64 ((i + 1 : Nat) : Int))], []⟩ [(-9223372036854775808 ≤ ((i + 1 : Nat) : Int) ∧ ((i + 1 : Nat) : Int) ≤ 9223372036854775807)] ?_ ?_)
      ·
       refine ⟨?_, trivial⟩
       ·
        omega
      refine AW.back (x := i) (i + 1) (by kernel_rfl) ⟨?_, k34q, ?_, e41⟩ ?_
      ·
       show True
       assumption
      ·
       show (List.length a) - (i + 1) < k34q
       omega
      ·
       show (List.length a) - (i + 1) < (List.length a) - i
       omega
    ·
     intro h42
     have h42q : ¬ (((i : Nat) : Int) < ((List.length a : Nat) : Int)) := (of_decide_eq_false h42)
     have e43 := e33.trans (Go.Am.bif_f h42)
     refine AW.kp [] [] ⟨[], []⟩ ?_
     refine AW.exit ?_
     refine AW.meet () (by kernel_rfl) ⟨?_, e43⟩
     show True
     assumption
  ·
   intro x hR
   obtain ⟨hJ0, e44⟩ := hR
   replace hJ0 : True := hJ0
   have e45 := e4.trans (Go.Am.elim_l e44)
   refine AW.seq (AW.r1 hC [4] [] ⟨[(4, .bool true)], []⟩ ?_)
   exact AW.ret (AW.retE (β := Bool) (fun v => [⟨.bool, v⟩]) (fun v => []) (v := true) e45 (by kernel_rfl) rfl rfl)

def eqTable (a : Tab) (b : Tab) : Bool := (bif ((Tab.Width a) != (Tab.Width b)) then false else (bif (!(eqValueSS (Tab.Rows a) (Tab.Rows b))) then false else true))

def eqTable_sp : FnSpec := mkSpec [.val (.named 2), .val (.named 2)] [.val .bool] (fun (a : Tab) (b : Tab) => True) (fun (a : Tab) (b : Tab) => [⟨.bool, (eqTable a b)⟩])

theorem eqTable_ok : FnOK Try.prog 22 eqTable_sp := by
 have hC : CtxOK Try.prog (mkCtx tyL [(23, eqValueSS_sp)]) := CtxOK.cons eqValueSS_ok (CtxOK.nil tyOK)
 refine FnOK.of_body Try.func22 (by kernel_rfl) rfl (C := (mkCtx tyL [(23, eqValueSS_sp)])) hC.ty (by kernel_rfl) ?_
 intro (a : Tab) (b : Tab) hwf hpre E
 have hpre : True := hpre
 have hw_a : Wf ⟨(.named 2), (a : Tab)⟩ := hwf _ (List.Mem.head _)
 have hr_a_Width : -9223372036854775808 ≤ Tab.Width a ∧ Tab.Width a ≤ 9223372036854775807 := (hw_a.field (tv := ⟨(.int .i64), Tab.Width a⟩) (List.Mem.head _)).int_inv
 have hl_a_Rows : ((List.length (Tab.Rows a) : Nat) : Int) ≤ 9223372036854775807 := (hw_a.field (tv := ⟨(.slice (.slice (.named 1))), Tab.Rows a⟩) (List.Mem.tail _ (List.Mem.head _))).len
 have hw_b : Wf ⟨(.named 2), (b : Tab)⟩ := hwf _ (List.Mem.tail _ (List.Mem.head _))
 have hr_b_Width : -9223372036854775808 ≤ Tab.Width b ∧ Tab.Width b ≤ 9223372036854775807 := (hw_b.field (tv := ⟨(.int .i64), Tab.Width b⟩) (List.Mem.head _)).int_inv
 have hl_b_Rows : ((List.length (Tab.Rows b) : Nat) : Int) ≤ 9223372036854775807 := (hw_b.field (tv := ⟨(.slice (.slice (.named 1))), Tab.Rows b⟩) (List.Mem.tail _ (List.Mem.head _))).len
 have e0 : eqTable a b = eqTable a b := rfl
 refine AW.seq (AW.r1 hC [2, 3] [8, 12] ⟨[(2, .ref 8 1 0), (3, .ref 12 1 0)], [(8, .box 1 [.int .i64 (Tab.Width a), .data (.slice (.slice (.named 1))) ((Tab.Rows a) : List (List Val))]), (12, .box 1 [.int .i64 (Tab.Width b), .data (.slice (.slice (.named 1))) ((Tab.Rows b) : List (List Val))])]⟩ ?_)
 refine AW.seq (AW.seq (AW.r1 hC [2, 3, 9] [8, 12] ⟨[(2, .ref 8 1 0), (3, .ref 12 1 0), (9, .bool ((Tab.Width a) != (Tab.Width b)))], [(8, .box 1 [.int .i64 (Tab.Width a), .data (.slice (.slice (.named 1))) ((Tab.Rows a) : List (List Val))]), (12, .box 1 [.int .i64 (Tab.Width b), .data (.slice (.slice (.named 1))) ((Tab.Rows b) : List (List Val))])]⟩ ?_))
 refine AW.cd ((Tab.Width a) != (Tab.Width b)) ?_ ?_
 ·
  intro h1
  have h1q : (Tab.Width a) ≠ (Tab.Width b) := (Go.Am.bne_pos h1)
  have e2 := e0.trans (Go.Am.bif_t h1)
  refine AW.seq (AW.r1 hC [4] [] ⟨[(4, .bool false)], []⟩ ?_)
  exact AW.ret (AW.retE (β := Bool) (fun v => [⟨.bool, v⟩]) (fun v => []) (v := false) e2 (by kernel_rfl) rfl rfl)
 ·
  intro h3
  have h3q : (Tab.Width a) = (Tab.Width b) := (Go.Am.bne_neg h3)
  have e4 := e0.trans (Go.Am.bif_f h3)
  refine AW.kp [2, 3] [8, 12] ⟨[(2, .ref 8 1 0), (3, .ref 12 1 0)], [(8, .box 1 [.int .i64 (Tab.Width a), .data (.slice (.slice (.named 1))) ((Tab.Rows a) : List (List Val))]), (12, .box 1 [.int .i64 (Tab.Width b), .data (.slice (.slice (.named 1))) ((Tab.Rows b) : List (List Val))])]⟩ ?_
  refine AW.skip (AW.seq (AW.seq (AW.r0 hC [15] [] ⟨[(15, .bool (!(eqValueSS (Tab.Rows a) (Tab.Rows b))))], []⟩ [(True)] ?_ ?_)))
  ·
   refine ⟨?_, trivial⟩
   ·
    trivial
  refine AW.cd (!(eqValueSS (Tab.Rows a) (Tab.Rows b))) ?_ ?_
  ·
   intro h5
   have h5q : (eqValueSS (Tab.Rows a) (Tab.Rows b)) = false := (Go.Am.not_pos h5)
   have e6 := e4.trans (Go.Am.bif_t h5)
   refine AW.seq (AW.r1 hC [4] [] ⟨[(4, .bool false)], []⟩ ?_)
   exact AW.ret (AW.retE (β := Bool) (fun v => [⟨.bool, v⟩]) (fun v => []) (v := false) e6 (by kernel_rfl) rfl rfl)
  ·
   intro h7
   have h7q : (eqValueSS (Tab.Rows a) (Tab.Rows b)) = true := (Go.Am.not_neg h7)
   have e8 := e4.trans (Go.Am.bif_f h7)
   refine AW.kp [] [] ⟨[], []⟩ ?_
   refine AW.skip (AW.seq (AW.r1 hC [4] [] ⟨[(4, .bool true)], []⟩ ?_))
   exact AW.ret (AW.retE (β := Bool) (fun v => [⟨.bool, v⟩]) (fun v => []) (v := true) e8 (by kernel_rfl) rfl rfl)

def heldValueS_l0 (a : List Val) : Nat → Int → Nat → Int ⊕ Int
 | 0, k1, i => .inl k1
 | k + 1, k1, i => (bif (decide (((i : Nat) : Int) < ((List.length a : Nat) : Int))) then (bif ((Val.Null (List.getD a i Val.zero)) != ((Int.tmod k1 3) == 0)) then (.inr (-1)) else (bif ((Val.N (List.getD a i Val.zero)) != (IntKind.wrap .i64 (k1 + 1))) then (.inr (-1)) else (heldValueS_l0 a k (IntKind.wrap .i64 ((IntKind.wrap .i64 (k1 + 1)) + 1)) (i + 1)))) else (.inl k1))

def heldValueS (a : List Val) (k0 : Int) : Int := (Sum.elim (fun z => (fun (k1 : Int) => k1) z) (fun r => r) (heldValueS_l0 a ((List.length a) - 0 + 1) k0 0))

def heldValueS_sp : FnSpec := mkSpec [.val (.slice (.named 1)), .val (.int .i64)] [.val (.int .i64)] (fun (a : List Val) (k0 : Int) => True) (fun (a : List Val) (k0 : Int) => [⟨(.int .i64), (heldValueS a k0)⟩])

theorem heldValueS_ok : FnOK Try.prog 104 heldValueS_sp := by
 have hC : CtxOK Try.prog (mkCtx tyL []) := CtxOK.nil tyOK
 refine FnOK.of_body Try.func104 (by kernel_rfl) rfl (C := (mkCtx tyL [])) hC.ty (by kernel_rfl) ?_
 intro (a : List Val) (k0 : Int) hwf hpre E
 have hpre : True := hpre
 have hw_a : Wf ⟨(.slice (.named 1)), (a : List Val)⟩ := hwf _ (List.Mem.head _)
 have hl_a : ((List.length a : Nat) : Int) ≤ 9223372036854775807 := hw_a.len
 have hw_k0 : Wf ⟨(.int .i64), (k0 : Int)⟩ := hwf _ (List.Mem.tail _ (List.Mem.head _))
 have hr_k0 : -9223372036854775808 ≤ k0 ∧ k0 ≤ 9223372036854775807 := hw_k0.int_inv
 have e0 : heldValueS a k0 = heldValueS a k0 := rfl
 refine AW.seq ?_
 refine AW.reg hC  true [] [0, 1] []
  ⟨[(0, .data (.slice (.named 1)) (a : List Val)), (1, .int .i64 k0)], []⟩
  [] (by kernel_rfl) ?_ ?_
 ·
  exact trivial
 refine AW.seq (AW.seq (AW.r1 hC [0, 1, 5] [] ⟨[(0, .data (.slice (.named 1)) (a : List Val)), (1, .int .i64 k0), (5, .int .i64 0)], []⟩ ?_))
 refine AW.cutQ (α := Int) (fun x => ⟨[(1, .int .i64 x)], []⟩) (fun x => (True) ∧ (heldValueS_l0 a ((List.length a) - 0 + 1) k0 0) = (.inl x)) ?_ ?_
 ·
  skip
  refine AW.block (AW.loop (α := Int × Nat) (fun x => ⟨[(0, .data (.slice (.named 1)) (a : List Val)), (1, .int .i64 x.1), (5, .int .i64 ((x.2 : Nat) : Int))], []⟩) (fun x => (True) ∧ ∃ k, (List.length a) - x.2 < k ∧ (heldValueS_l0 a ((List.length a) - 0 + 1) k0 0) = heldValueS_l0 a k x.1 x.2) (fun x => (List.length a) - x.2) (k0, 0) (by kernel_rfl) ⟨?_, _, Nat.lt_succ_self _, rfl⟩ ?_)
  ·
   show True
   exact trivial
  ·
   intro x hR
   obtain ⟨k1, i⟩ := x
   obtain ⟨hI0, k45, hk43, e44⟩ := hR
   replace hI0 : True := hI0
   replace hk43 : (List.length a) - i < k45 := hk43
   obtain ⟨k45q, rfl⟩ : ∃ k, k45 = k + 1 := ⟨k45 - 1, by omega⟩
   refine AW.seq (AW.seq ?_)
   refine AW.reg hC  true [] [0, 1, 5, 9] []
    ⟨[(0, .data (.slice (.named 1)) (a : List Val)), (1, .int .i64 k1), (5, .int .i64 ((i : Nat) : Int)), (9, .bool (decide (((i : Nat) : Int) < ((List.length a : Nat) : Int))))], []⟩
    [] (by kernel_rfl) ?_ ?_
   ·
    exact trivial
   refine AW.cd (decide (((i : Nat) : Int) < ((List.length a : Nat) : Int))) ?_ ?_
   ·
    intro h46
    have h46q : ((i : Nat) : Int) < ((List.length a : Nat) : Int) := (of_decide_eq_true h46)
    have e47 := e44.trans (Go.Am.bif_t h46)
    refine AW.kp [0, 1, 5] [] ⟨[(0, .data (.slice (.named 1)) (a : List Val)), (1, .int .i64 k1), (5, .int .i64 ((i : Nat) : Int))], []⟩ ?_
    refine AW.skip (AW.seq (AW.block (AW.seq (AW.seq ?_))))
    refine AW.reg hC  true [] [0, 1, 5, 20] []
     ⟨[(0, .data (.slice (.named 1)) (a : List Val)), (1, .int .i64 k1), (5, .int .i64 ((i : Nat) : Int)), (20, .bool ((Val.Null (List.getD a i Val.zero)) != ((Int.tmod k1 3) == 0)))], []⟩
     [(0 ≤ ((i : Nat) : Int) ∧ ((i : Nat) : Int) < ((List.length a : Nat) : Int)), ((3 : Int) ≠ 0)] (by kernel_rfl) ?_ ?_
    ·
     refine ⟨?_, ?_, trivial⟩
     ·
      omega
     ·
      omega
    refine AW.cd ((Val.Null (List.getD a i Val.zero)) != ((Int.tmod k1 3) == 0)) ?_ ?_
    ·
     intro h48
     have h48q : ((Val.Null (List.getD a i Val.zero)) != ((Int.tmod k1 3) == 0)) = true := h48
     have e49 := e47.trans (Go.Am.bif_t h48)
     refine AW.seq ?_
     refine AW.reg hC  true [] [4] []
      ⟨[(4, .int .i64 (-1))], []⟩
      [] (by kernel_rfl) ?_ ?_
     ·
      exact trivial
     refine AW.ret ?_
     have e50 := e0.trans (Go.Am.elim_r e49)
     exact AW.retE (β := Int) (fun v => [⟨(.int .i64), v⟩]) (fun v => []) (v := (-1)) e50 (by kernel_rfl) rfl rfl
    ·
     intro h51
     have h51q : ((Val.Null (List.getD a i Val.zero)) != ((Int.tmod k1 3) == 0)) = false := h51
     have e52 := e47.trans (Go.Am.bif_f h51)
     refine AW.kp [0, 1, 5] [] ⟨[(0, .data (.slice (.named 1)) (a : List Val)), (1, .int .i64 k1), (5, .int .i64 ((i : Nat) : Int))], []⟩ ?_
     refine AW.skip (AW.seq ?_)
     refine AW.reg hC  true [] [0, 1, 5] []
      ⟨[(0, .data (.slice (.named 1)) (a : List Val)), (1, .int .i64 (IntKind.wrap .i64 (k1 + 1))), (5, .int .i64 ((i : Nat) : Int))], []⟩
      [] (by kernel_rfl) ?_ ?_
     ·
      exact trivial
     refine AW.seq (AW.seq ?_)
     refine AW.reg hC  true [] [0, 1, 5, 29] []
      ⟨[(0, .data (.slice (.named 1)) (a : List Val)), (1, .int .i64 (IntKind.wrap .i64 (k1 + 1))), (5, .int .i64 ((i : Nat) : Int)), (29, .bool ((Val.N (List.getD a i Val.zero)) != (IntKind.wrap .i64 (k1 + 1))))], []⟩
      [(0 ≤ ((i : Nat) : Int) ∧ ((i : Nat) : Int) < ((List.length a : Nat) : Int))] (by kernel_rfl) ?_ ?_
     ·
      refine ⟨?_, trivial⟩
      ·
       omega
     refine AW.cd ((Val.N (List.getD a i Val.zero)) != (IntKind.wrap .i64 (k1 + 1))) ?_ ?_
     ·
      intro h53
      have h53q : (Val.N (List.getD a i Val.zero)) ≠ (IntKind.wrap .i64 (k1 + 1)) := (Go.Am.bne_pos h53)
      have e54 := e52.trans (Go.Am.bif_t h53)
      refine AW.seq ?_
      refine AW.reg hC  true [] [4] []
       ⟨[(4, .int .i64 (-1))], []⟩
       [] (by kernel_rfl) ?_ ?_
      ·
       exact trivial
      refine AW.ret ?_
      have e55 := e0.trans (Go.Am.elim_r e54)
      exact AW.retE (β := Int) (fun v => [⟨(.int .i64), v⟩]) (fun v => []) (v := (-1)) e55 (by kernel_rfl) rfl rfl
     ·
      intro h56
      have h56q : (Val.N (List.getD a i Val.zero)) = (IntKind.wrap .i64 (k1 + 1)) := (Go.Am.bne_neg h56)
      have e57 := e52.trans (Go.Am.bif_f h56)
      refine AW.kp [0, 1, 5] [] ⟨[(0, .data (.slice (.named 1)) (a : List Val)), (1, .int .i64 (IntKind.wrap .i64 (k1 + 1))), (5, .int .i64 ((i : Nat) : Int))], []⟩ ?_
      refine AW.skip ?_
      refine AW.reg hC  true [] [0, 1, 5] []
       ⟨[(0, .data (.slice (.named 1)) (a : List Val)), (1, .int .i64 (IntKind.wrap .i64 ((IntKind.wrap .i64 (k1 + 1)) + 1))), (5, .int .i64 ((i : Nat) : Int))], []⟩
       [] (by kernel_rfl) ?_ ?_
      ·
       exact trivial
      refine AW.r0 hC [0, 1, 5] [] ⟨[(0, .data (.slice (.named 1)) (a : List Val)), (1, .int .i64 (IntKind.wrap .i64 ((IntKind.wrap .i64 (k1 + 1)) + 1))), (5, .int .i64 ((i + 1 : Nat) : Int))], []⟩ [(-9223372036854775808 ≤ ((i + 1 : Nat) : Int) ∧ ((i + 1 : Nat) : Int) ≤ 9223372036854775807)] ?_ ?_
      ·
       refine ⟨?_, trivial⟩
       ·
        omega
      refine AW.back (x := (k1, i)) ((IntKind.wrap .i64 ((IntKind.wrap .i64 (k1 + 1)) + 1)), i + 1) (by kernel_rfl) ⟨?_, k45q, ?_, e57⟩ ?_
      ·
       show True
       assumption
      ·
       show (List.length a) - (i + 1) < k45q
       omega
      ·
       show (List.length a) - (i + 1) < (List.length a) - i
       omega
   ·
    intro h58
    have h58q : ¬ (((i : Nat) : Int) < ((List.length a : Nat) : Int)) := (of_decide_eq_false h58)
    have e59 := e44.trans (Go.Am.bif_f h58)
    refine AW.kp [1] [] ⟨[(1, .int .i64 k1)], []⟩ ?_
    refine AW.exit ?_
    refine AW.meet k1 (by kernel_rfl) ⟨?_, e59⟩
    show True
    assumption
 ·
  intro k1 hR
  obtain ⟨hJ0, e60⟩ := hR
  replace hJ0 : True := hJ0
  have e61 := e0.trans (Go.Am.elim_l e60)
  refine AW.seq ?_
  refine AW.reg hC  true [] [4] []
   ⟨[(4, .int .i64 k1)], []⟩
   [] (by kernel_rfl) ?_ ?_
  ·
   exact trivial
  exact AW.ret (AW.retE (β := Int) (fun v => [⟨(.int .i64), v⟩]) (fun v => []) (v := k1) e61 (by kernel_rfl) rfl rfl)

def heldValueSS_l0 (a : List (List Val)) : Nat → Int → Nat → Int ⊕ Int
 | 0, k1, i => .inl k1
 | k + 1, k1, i => (bif (decide (((i : Nat) : Int) < ((List.length a : Nat) : Int))) then (bif (decide ((heldValueS (List.getD a i []) k1) < 0)) then (.inr (-1)) else (heldValueSS_l0 a k (heldValueS (List.getD a i []) k1) (i + 1))) else (.inl k1))

def heldValueSS (a : List (List Val)) (k0 : Int) : Int := (Sum.elim (fun z => (fun (k1 : Int) => k1) z) (fun r => r) (heldValueSS_l0 a ((List.length a) - 0 + 1) k0 0))

def heldValueSS_sp : FnSpec := mkSpec [.val (.slice (.slice (.named 1))), .val (.int .i64)] [.val (.int .i64)] (fun (a : List (List Val)) (k0 : Int) => True) (fun (a : List (List Val)) (k0 : Int) => [⟨(.int .i64), (heldValueSS a k0)⟩])

theorem heldValueSS_ok : FnOK Try.prog 73 heldValueSS_sp := by
 have hC : CtxOK Try.prog (mkCtx tyL [(104, heldValueS_sp)]) := CtxOK.cons heldValueS_ok (CtxOK.nil tyOK)
 refine FnOK.of_body Try.func73 (by kernel_rfl) rfl (C := (mkCtx tyL [(104, heldValueS_sp)])) hC.ty (by kernel_rfl) ?_
 intro (a : List (List Val)) (k0 : Int) hwf hpre E
 have hpre : True := hpre
 have hw_a : Wf ⟨(.slice (.slice (.named 1))), (a : List (List Val))⟩ := hwf _ (List.Mem.head _)
 have hl_a : ((List.length a : Nat) : Int) ≤ 9223372036854775807 := hw_a.len
 have hw_k0 : Wf ⟨(.int .i64), (k0 : Int)⟩ := hwf _ (List.Mem.tail _ (List.Mem.head _))
 have hr_k0 : -9223372036854775808 ≤ k0 ∧ k0 ≤ 9223372036854775807 := hw_k0.int_inv
 have e0 : heldValueSS a k0 = heldValueSS a k0 := rfl
 refine AW.seq ?_
 refine AW.reg hC  true [] [0, 1] []
  ⟨[(0, .data (.slice (.slice (.named 1))) (a : List (List Val))), (1, .int .i64 k0)], []⟩
  [] (by kernel_rfl) ?_ ?_
 ·
  exact trivial
 refine AW.seq (AW.seq (AW.r1 hC [0, 1, 5] [] ⟨[(0, .data (.slice (.slice (.named 1))) (a : List (List Val))), (1, .int .i64 k0), (5, .int .i64 0)], []⟩ ?_))
 refine AW.cutQ (α := Int) (fun x => ⟨[(1, .int .i64 x)], []⟩) (fun x => (True) ∧ (heldValueSS_l0 a ((List.length a) - 0 + 1) k0 0) = (.inl x)) ?_ ?_
 ·
  skip
  refine AW.block (AW.loop (α := Int × Nat) (fun x => ⟨[(0, .data (.slice (.slice (.named 1))) (a : List (List Val))), (1, .int .i64 x.1), (5, .int .i64 ((x.2 : Nat) : Int))], []⟩) (fun x => (True) ∧ ∃ k, (List.length a) - x.2 < k ∧ (heldValueSS_l0 a ((List.length a) - 0 + 1) k0 0) = heldValueSS_l0 a k x.1 x.2) (fun x => (List.length a) - x.2) (k0, 0) (by kernel_rfl) ⟨?_, _, Nat.lt_succ_self _, rfl⟩ ?_)
  ·
   show True
   exact trivial
  ·
   intro x hR
   obtain ⟨k1, i⟩ := x
   obtain ⟨hI0, k30, hk28, e29⟩ := hR
   replace hI0 : True := hI0
   replace hk28 : (List.length a) - i < k30 := hk28
   obtain ⟨k30q, rfl⟩ : ∃ k, k30 = k + 1 := ⟨k30 - 1, by omega⟩
   refine AW.seq (AW.seq ?_)
   refine AW.reg hC  true [] [0, 1, 5, 9] []
    ⟨[(0, .data (.slice (.slice (.named 1))) (a : List (List Val))), (1, .int .i64 k1), (5, .int .i64 ((i : Nat) : Int)), (9, .bool (decide (((i : Nat) : Int) < ((List.length a : Nat) : Int))))], []⟩
    [] (by kernel_rfl) ?_ ?_
   ·
    exact trivial
   refine AW.cd (decide (((i : Nat) : Int) < ((List.length a : Nat) : Int))) ?_ ?_
   ·
    intro h31
    have h31q : ((i : Nat) : Int) < ((List.length a : Nat) : Int) := (of_decide_eq_true h31)
    have e32 := e29.trans (Go.Am.bif_t h31)
    refine AW.kp [0, 1, 5] [] ⟨[(0, .data (.slice (.slice (.named 1))) (a : List (List Val))), (1, .int .i64 k1), (5, .int .i64 ((i : Nat) : Int))], []⟩ ?_
    refine AW.skip (AW.seq (AW.block (AW.seq ?_)))
    refine AW.reg hC  true [] [0, 1, 5] []
     ⟨[(0, .data (.slice (.slice (.named 1))) (a : List (List Val))), (1, .int .i64 (heldValueS (List.getD a i []) k1)), (5, .int .i64 ((i : Nat) : Int))], []⟩
     [(0 ≤ ((i : Nat) : Int) ∧ ((i : Nat) : Int) < ((List.length a : Nat) : Int)), (True)] (by kernel_rfl) ?_ ?_
    ·
     refine ⟨?_, ?_, trivial⟩
     ·
      omega
     ·
      trivial
    refine AW.seq ?_
    refine AW.reg hC  true [] [0, 1, 5, 19] []
     ⟨[(0, .data (.slice (.slice (.named 1))) (a : List (List Val))), (1, .int .i64 (heldValueS (List.getD a i []) k1)), (5, .int .i64 ((i : Nat) : Int)), (19, .bool (decide ((heldValueS (List.getD a i []) k1) < 0)))], []⟩
     [] (by kernel_rfl) ?_ ?_
    ·
     exact trivial
    refine AW.cd (decide ((heldValueS (List.getD a i []) k1) < 0)) ?_ ?_
    ·
     intro h33
     have h33q : (heldValueS (List.getD a i []) k1) < 0 := (of_decide_eq_true h33)
     have e34 := e32.trans (Go.Am.bif_t h33)
     refine AW.seq ?_
     refine AW.reg hC  true [] [4] []
      ⟨[(4, .int .i64 (-1))], []⟩
      [] (by kernel_rfl) ?_ ?_
     ·
      exact trivial
     refine AW.ret ?_
     have e35 := e0.trans (Go.Am.elim_r e34)
     exact AW.retE (β := Int) (fun v => [⟨(.int .i64), v⟩]) (fun v => []) (v := (-1)) e35 (by kernel_rfl) rfl rfl
    ·
     intro h36
     have h36q : ¬ ((heldValueS (List.getD a i []) k1) < 0) := (of_decide_eq_false h36)
     have e37 := e32.trans (Go.Am.bif_f h36)
     refine AW.kp [0, 1, 5] [] ⟨[(0, .data (.slice (.slice (.named 1))) (a : List (List Val))), (1, .int .i64 (heldValueS (List.getD a i []) k1)), (5, .int .i64 ((i : Nat) : Int))], []⟩ ?_
     refine AW.skip (AW.r0 hC [0, 1, 5] [] ⟨[(0, .data (.slice (.slice (.named 1))) (a : List (List Val))), (1, .int .i64 (heldValueS (List.getD a i []) k1)), (5, .int .i64 ((i + 1 : Nat) : Int))], []⟩ [(-9223372036854775808 ≤ ((i + 1 : Nat) : Int) ∧ ((i + 1 : Nat) : Int) ≤ 9223372036854775807)] ?_ ?_)
     ·
      refine ⟨?_, trivial⟩
      ·
       omega
     refine AW.back (x := (k1, i)) ((heldValueS (List.getD a i []) k1), i + 1) (by kernel_rfl) ⟨?_, k30q, ?_, e37⟩ ?_
     ·
      show True
      assumption
     ·
      show (List.length a) - (i + 1) < k30q
      omega
     ·
      show (List.length a) - (i + 1) < (List.length a) - i
      omega
   ·
    intro h38
    have h38q : ¬ (((i : Nat) : Int) < ((List.length a : Nat) : Int)) := (of_decide_eq_false h38)
    have e39 := e29.trans (Go.Am.bif_f h38)
    refine AW.kp [1] [] ⟨[(1, .int .i64 k1)], []⟩ ?_
    refine AW.exit ?_
    refine AW.meet k1 (by kernel_rfl) ⟨?_, e39⟩
    show True
    assumption
 ·
  intro k1 hR
  obtain ⟨hJ0, e40⟩ := hR
  replace hJ0 : True := hJ0
  have e41 := e0.trans (Go.Am.elim_l e40)
  refine AW.seq ?_
  refine AW.reg hC  true [] [4] []
   ⟨[(4, .int .i64 k1)], []⟩
   [] (by kernel_rfl) ?_ ?_
  ·
   exact trivial
  exact AW.ret (AW.retE (β := Int) (fun v => [⟨(.int .i64), v⟩]) (fun v => []) (v := k1) e41 (by kernel_rfl) rfl rfl)

def heldTable (a : Tab) (k0 : Int) : Int := (bif (decide ((heldValueSS (Tab.Rows a) k0) < 0)) then (-1) else (heldValueSS (Tab.Rows a) k0))

def heldTable_sp : FnSpec := mkSpec [.val (.named 2), .val (.int .i64)] [.val (.int .i64)] (fun (a : Tab) (k0 : Int) => True) (fun (a : Tab) (k0 : Int) => [⟨(.int .i64), (heldTable a k0)⟩])

theorem heldTable_ok : FnOK Try.prog 26 heldTable_sp := by
 have hC : CtxOK Try.prog (mkCtx tyL [(73, heldValueSS_sp)]) := CtxOK.cons heldValueSS_ok (CtxOK.nil tyOK)
 refine FnOK.of_body Try.func26 (by kernel_rfl) rfl (C := (mkCtx tyL [(73, heldValueSS_sp)])) hC.ty (by kernel_rfl) ?_
 intro (a : Tab) (k0 : Int) hwf hpre E
 have hpre : True := hpre
 have hw_a : Wf ⟨(.named 2), (a : Tab)⟩ := hwf _ (List.Mem.head _)
 have hr_a_Width : -9223372036854775808 ≤ Tab.Width a ∧ Tab.Width a ≤ 9223372036854775807 := (hw_a.field (tv := ⟨(.int .i64), Tab.Width a⟩) (List.Mem.head _)).int_inv
 have hl_a_Rows : ((List.length (Tab.Rows a) : Nat) : Int) ≤ 9223372036854775807 := (hw_a.field (tv := ⟨(.slice (.slice (.named 1))), Tab.Rows a⟩) (List.Mem.tail _ (List.Mem.head _))).len
 have hw_k0 : Wf ⟨(.int .i64), (k0 : Int)⟩ := hwf _ (List.Mem.tail _ (List.Mem.head _))
 have hr_k0 : -9223372036854775808 ≤ k0 ∧ k0 ≤ 9223372036854775807 := hw_k0.int_inv
 have e0 : heldTable a k0 = heldTable a k0 := rfl
 refine AW.seq ?_
 refine AW.reg hC  true [] [1, 2] [8]
  ⟨[(1, .int .i64 k0), (2, .ref 8 1 0)], [(8, .box 1 [.int .i64 (Tab.Width a), .data (.slice (.slice (.named 1))) ((Tab.Rows a) : List (List Val))])]⟩
  [] (by kernel_rfl) ?_ ?_
 ·
  exact trivial
 refine AW.seq (AW.r0 hC [1] [] ⟨[(1, .int .i64 (heldValueSS (Tab.Rows a) k0))], []⟩ [(True)] ?_ ?_)
 ·
  refine ⟨?_, trivial⟩
  ·
   trivial
 refine AW.seq (AW.seq ?_)
 refine AW.reg hC  true [] [1, 10] []
  ⟨[(1, .int .i64 (heldValueSS (Tab.Rows a) k0)), (10, .bool (decide ((heldValueSS (Tab.Rows a) k0) < 0)))], []⟩
  [] (by kernel_rfl) ?_ ?_
 ·
  exact trivial
 refine AW.cd (decide ((heldValueSS (Tab.Rows a) k0) < 0)) ?_ ?_
 ·
  intro h1
  have h1q : (heldValueSS (Tab.Rows a) k0) < 0 := (of_decide_eq_true h1)
  have e2 := e0.trans (Go.Am.bif_t h1)
  refine AW.seq ?_
  refine AW.reg hC  true [] [4] []
   ⟨[(4, .int .i64 (-1))], []⟩
   [] (by kernel_rfl) ?_ ?_
  ·
   exact trivial
  exact AW.ret (AW.retE (β := Int) (fun v => [⟨(.int .i64), v⟩]) (fun v => []) (v := (-1)) e2 (by kernel_rfl) rfl rfl)
 ·
  intro h3
  have h3q : ¬ ((heldValueSS (Tab.Rows a) k0) < 0) := (of_decide_eq_false h3)
  have e4 := e0.trans (Go.Am.bif_f h3)
  refine AW.kp [1] [] ⟨[(1, .int .i64 (heldValueSS (Tab.Rows a) k0))], []⟩ ?_
  refine AW.skip (AW.seq ?_)
  refine AW.reg hC  true [] [4] []
   ⟨[(4, .int .i64 (heldValueSS (Tab.Rows a) k0))], []⟩
   [] (by kernel_rfl) ?_ ?_
  ·
   exact trivial
  exact AW.ret (AW.retE (β := Int) (fun v => [⟨(.int .i64), v⟩]) (fun v => []) (v := (heldValueSS (Tab.Rows a) k0)) e4 (by kernel_rfl) rfl rfl)

end
end Go.Proofs.Ytjcjpeckfikfkaa
