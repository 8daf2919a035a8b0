/-
  A part of the proof of this claim (AwF): what functions of the program compute, and plain facts of that. No conditions.
-/
import Derived.Test.YtjcjpeckfikfkaaAwE
set_option linter.all false
namespace Go.Proofs.Ytjcjpeckfikfkaa
open Go Go.Am
noncomputable section

def equalRows_l0 (a : List Val) (b : List Val) : Nat → Nat → Unit ⊕ Bool
 | 0, i => .inl ()
 | k + 1, i => (bif (decide (((i : Nat) : Int) < ((List.length a : Nat) : Int))) then (bif (!(bif ((Val.Null (List.getD a i Val.zero)) == (Val.Null (List.getD b i Val.zero))) then (bif ((Val.N (List.getD a i Val.zero)) == (Val.N (List.getD b i Val.zero))) then true else false) else false)) then (.inr false) else (equalRows_l0 a b k (i + 1))) else (.inl ()))

def equalRows (a : List Val) (b : List Val) : Bool := (bif (((List.length a : Nat) : Int) != ((List.length b : Nat) : Int)) then false else (Sum.elim (fun _ => true) (fun r => r) (equalRows_l0 a b ((List.length a) - 0 + 1) 0)))

def equalRows_sp : FnSpec := mkSpec [.val (.slice (.named 1)), .val (.slice (.named 1))] [.val .bool] (fun (a : List Val) (b : List Val) => True) (fun (a : List Val) (b : List Val) => [⟨.bool, (equalRows a b)⟩])

theorem equalRows_ok : FnOK Try.prog 31 equalRows_sp := by
 have hC : CtxOK Try.prog (mkCtx tyL []) := CtxOK.nil tyOK
 have hM : Try.prog.follows .mixedOrders = true := Try.checked.mixed
 refine FnOK.of_body Try.func31 (by kernel_rfl) rfl (C := (mkCtx tyL [])) hC.ty (by kernel_rfl) ?_
 intro (a : List Val) (b : List Val) hwf hpre E
 have hpre : True := hpre
 have hw_a : Wf ⟨(.slice (.named 1)), (a : List Val)⟩ := hwf _ (List.Mem.head _)
 have hl_a : ((List.length a : Nat) : Int) ≤ 9223372036854775807 := hw_a.len
 have hw_b : Wf ⟨(.slice (.named 1)), (b : List Val)⟩ := hwf _ (List.Mem.tail _ (List.Mem.head _))
 have hl_b : ((List.length b : Nat) : Int) ≤ 9223372036854775807 := hw_b.len
 have e0 : equalRows a b = equalRows a b := rfl
 refine AW.seq (AW.r1 hC [0, 1] [] ⟨[(0, .data (.slice (.named 1)) (a : List Val)), (1, .data (.slice (.named 1)) (b : List Val))], []⟩ ?_)
 refine AW.seq (AW.seq (AW.r1 hC [0, 1, 10] [] ⟨[(0, .data (.slice (.named 1)) (a : List Val)), (1, .data (.slice (.named 1)) (b : List Val)), (10, .bool (((List.length a : Nat) : Int) != ((List.length b : Nat) : Int)))], []⟩ ?_))
 refine AW.cd (((List.length a : Nat) : Int) != ((List.length b : Nat) : Int)) ?_ ?_
 ·
  intro h1
  have h1q : ((List.length a : Nat) : Int) ≠ ((List.length b : Nat) : Int) := (Go.Am.bne_pos h1)
  have e2 := e0.trans (Go.Am.bif_t h1)
  refine AW.seq (AW.r1 hC [4] [] ⟨[(4, .bool false)], []⟩ ?_)
  exact AW.ret (AW.retE (β := Bool) (fun v => [⟨.bool, v⟩]) (fun v => []) (v := false) e2 (by kernel_rfl) rfl rfl)
 ·
  intro h3
  have h3q : ((List.length a : Nat) : Int) = ((List.length b : Nat) : Int) := (Go.Am.bne_neg h3)
  have e4 := e0.trans (Go.Am.bif_f h3)
  refine AW.kp [0, 1] [] ⟨[(0, .data (.slice (.named 1)) (a : List Val)), (1, .data (.slice (.named 1)) (b : List Val))], []⟩ ?_
  refine AW.skip (AW.seq (AW.seq (AW.r1 hC [0, 1, 5] [] ⟨[(0, .data (.slice (.named 1)) (a : List Val)), (1, .data (.slice (.named 1)) (b : List Val)), (5, .int .i64 0)], []⟩ ?_)))
  refine AW.cutQ (α := Unit) (fun x => ⟨[], []⟩) (fun x => (True) ∧ (equalRows_l0 a b ((List.length a) - 0 + 1) 0) = (.inl ())) ?_ ?_
  ·
   skip
   refine AW.block (AW.loop (α := Nat) (fun x => ⟨[(0, .data (.slice (.named 1)) (a : List Val)), (1, .data (.slice (.named 1)) (b : List Val)), (5, .int .i64 ((x : Nat) : Int))], []⟩) (fun x => (True) ∧ ∃ k, (List.length a) - x < k ∧ (equalRows_l0 a b ((List.length a) - 0 + 1) 0) = equalRows_l0 a b k x) (fun x => (List.length a) - x) 0 (by kernel_rfl) ⟨?_, _, Nat.lt_succ_self _, rfl⟩ ?_)
   ·
    show True
    exact trivial
   ·
    intro i hR
    obtain ⟨hI0, k34, hk32, e33⟩ := hR
    replace hI0 : True := hI0
    replace hk32 : (List.length a) - i < k34 := hk32
    obtain ⟨k34q, rfl⟩ : ∃ k, k34 = k + 1 := ⟨k34 - 1, by omega⟩
    refine AW.seq (AW.seq (AW.r1 hC [0, 1, 5, 14] [] ⟨[(0, .data (.slice (.named 1)) (a : List Val)), (1, .data (.slice (.named 1)) (b : List Val)), (5, .int .i64 ((i : Nat) : Int)), (14, .bool (decide (((i : Nat) : Int) < ((List.length a : Nat) : Int))))], []⟩ ?_))
    refine AW.cd (decide (((i : Nat) : Int) < ((List.length a : Nat) : Int))) ?_ ?_
    ·
     intro h35
     have h35q : ((i : Nat) : Int) < ((List.length a : Nat) : Int) := (of_decide_eq_true h35)
     have e36 := e33.trans (Go.Am.bif_t h35)
     refine AW.kp [0, 1, 5] [] ⟨[(0, .data (.slice (.named 1)) (a : List Val)), (1, .data (.slice (.named 1)) (b : List Val)), (5, .int .i64 ((i : Nat) : Int))], []⟩ ?_
     refine AW.skip (AW.seq (AW.block (AW.seq (AW.d0 hC hM [0, 1, 5, 25] [] ⟨[(0, .data (.slice (.named 1)) (a : List Val)), (1, .data (.slice (.named 1)) (b : List Val)), (5, .int .i64 ((i : Nat) : Int)), (25, .bool (!(bif ((Val.Null (List.getD a i Val.zero)) == (Val.Null (List.getD b i Val.zero))) then (bif ((Val.N (List.getD a i Val.zero)) == (Val.N (List.getD b i Val.zero))) then true else false) else false)))], []⟩ [(0 ≤ ((i : Nat) : Int) ∧ ((i : Nat) : Int) < ((List.length a : Nat) : Int)), (0 ≤ ((i : Nat) : Int) ∧ ((i : Nat) : Int) < ((List.length b : Nat) : Int))] ?_ ?_))))
     ·
      refine ⟨?_, ?_, trivial⟩
      ·
       omega
      ·
       omega
     refine AW.cd (!(bif ((Val.Null (List.getD a i Val.zero)) == (Val.Null (List.getD b i Val.zero))) then (bif ((Val.N (List.getD a i Val.zero)) == (Val.N (List.getD b i Val.zero))) then true else false) else false)) ?_ ?_
     ·
      intro h37
      have h37q : (((Val.Null (List.getD a i Val.zero)) == (Val.Null (List.getD b i Val.zero))) = false) ∨ (((Val.N (List.getD a i Val.zero)) ≠ (Val.N (List.getD b i Val.zero))) ∨ (true = false)) := (Or.imp (fun h => h) (fun h => (Or.imp (fun h => (Go.Am.beq_neg h)) (fun h => h) (Go.Am.and_neg h))) (Go.Am.and_neg (Go.Am.not_pos h37)))
      have e38 := e36.trans (Go.Am.bif_t h37)
      refine AW.seq (AW.r1 hC [4] [] ⟨[(4, .bool false)], []⟩ ?_)
      refine AW.ret ?_
      have e39 := e4.trans (Go.Am.elim_r e38)
      exact AW.retE (β := Bool) (fun v => [⟨.bool, v⟩]) (fun v => []) (v := false) e39 (by kernel_rfl) rfl rfl
     ·
      intro h40
      have h40q : (((Val.Null (List.getD a i Val.zero)) == (Val.Null (List.getD b i Val.zero))) = true) ∧ (((Val.N (List.getD a i Val.zero)) = (Val.N (List.getD b i Val.zero))) ∧ (true = true)) := (And.imp (fun h => h) (fun h => (And.imp (fun h => (Go.Am.beq_pos h)) (fun h => h) (Go.Am.and_pos h))) (Go.Am.and_pos (Go.Am.not_neg h40)))
      have e41 := e36.trans (Go.Am.bif_f h40)
      refine AW.kp [0, 1, 5] [] ⟨[(0, .data (.slice (.named 1)) (a : List Val)), (1, .data (.slice (.named 1)) (b : List Val)), (5, .int .i64 ((i : Nat) : Int))], []⟩ ?_
      refine AW.skip (AW.r0 hC [0, 1, 5] [] ⟨[(0, .data (.slice (.named 1)) (a : List Val)), (1, .data (.slice (.named 1)) (b : List Val)), (5, .int .i64 ((i + 1 : Nat) : Int))], []⟩ [(-9223372036854775808 ≤ ((i + 1 : Nat) : Int) ∧ ((i + 1 : Nat) : Int) ≤ 9223372036854775807)] ?_ ?_)
      ·
       refine ⟨?_, trivial⟩
       ·
        omega
      refine AW.back (x := i) (i + 1) (by kernel_rfl) ⟨?_, k34q, ?_, e41⟩ ?_
      ·
       show True
       assumption
      ·
       show (List.length a) - (i + 1) < k34q
       omega
      ·
       show (List.length a) - (i + 1) < (List.length a) - i
       omega
    ·
     intro h42
     have h42q : ¬ (((i : Nat) : Int) < ((List.length a : Nat) : Int)) := (of_decide_eq_false h42)
     have e43 := e33.trans (Go.Am.bif_f h42)
     refine AW.kp [] [] ⟨[], []⟩ ?_
     refine AW.exit ?_
     refine AW.meet () (by kernel_rfl) ⟨?_, e43⟩
     show True
     assumption
  ·
   intro x hR
   obtain ⟨hJ0, e44⟩ := hR
   replace hJ0 : True := hJ0
   have e45 := e4.trans (Go.Am.elim_l e44)
   refine AW.seq (AW.r1 hC [4] [] ⟨[(4, .bool true)], []⟩ ?_)
   exact AW.ret (AW.retE (β := Bool) (fun v => [⟨.bool, v⟩]) (fun v => []) (v := true) e45 (by kernel_rfl) rfl rfl)

def equalBags_l0 (a : List (List Val)) (b : List (List Val)) : Nat → Nat → Unit ⊕ Bool
 | 0, i => .inl ()
 | k + 1, i => (bif (decide (((i : Nat) : Int) < ((List.length a : Nat) : Int))) then (bif (!(equalRows (List.getD a i []) (List.getD b i []))) then (.inr false) else (equalBags_l0 a b k (i + 1))) else (.inl ()))

def equalBags (a : List (List Val)) (b : List (List Val)) : Bool := (bif (((List.length a : Nat) : Int) != ((List.length b : Nat) : Int)) then false else (Sum.elim (fun _ => true) (fun r => r) (equalBags_l0 a b ((List.length a) - 0 + 1) 0)))

def equalBags_sp : FnSpec := mkSpec [.val (.slice (.slice (.named 1))), .val (.slice (.slice (.named 1)))] [.val .bool] (fun (a : List (List Val)) (b : List (List Val)) => True) (fun (a : List (List Val)) (b : List (List Val)) => [⟨.bool, (equalBags a b)⟩])

theorem equalBags_ok : FnOK Try.prog 67 equalBags_sp := by
 have hC : CtxOK Try.prog (mkCtx tyL [(31, equalRows_sp)]) := CtxOK.cons equalRows_ok (CtxOK.nil tyOK)
 have hM : Try.prog.follows .mixedOrders = true := Try.checked.mixed
 refine FnOK.of_body Try.func67 (by kernel_rfl) rfl (C := (mkCtx tyL [(31, equalRows_sp)])) hC.ty (by kernel_rfl) ?_
 intro (a : List (List Val)) (b : List (List Val)) hwf hpre E
 have hpre : True := hpre
 have hw_a : Wf ⟨(.slice (.slice (.named 1))), (a : List (List Val))⟩ := hwf _ (List.Mem.head _)
 have hl_a : ((List.length a : Nat) : Int) ≤ 9223372036854775807 := hw_a.len
 have hw_b : Wf ⟨(.slice (.slice (.named 1))), (b : List (List Val))⟩ := hwf _ (List.Mem.tail _ (List.Mem.head _))
 have hl_b : ((List.length b : Nat) : Int) ≤ 9223372036854775807 := hw_b.len
 have e0 : equalBags a b = equalBags a b := rfl
 refine AW.seq (AW.r1 hC [0, 1] [] ⟨[(0, .data (.slice (.slice (.named 1))) (a : List (List Val))), (1, .data (.slice (.slice (.named 1))) (b : List (List Val)))], []⟩ ?_)
 refine AW.seq (AW.seq (AW.r1 hC [0, 1, 10] [] ⟨[(0, .data (.slice (.slice (.named 1))) (a : List (List Val))), (1, .data (.slice (.slice (.named 1))) (b : List (List Val))), (10, .bool (((List.length a : Nat) : Int) != ((List.length b : Nat) : Int)))], []⟩ ?_))
 refine AW.cd (((List.length a : Nat) : Int) != ((List.length b : Nat) : Int)) ?_ ?_
 ·
  intro h1
  have h1q : ((List.length a : Nat) : Int) ≠ ((List.length b : Nat) : Int) := (Go.Am.bne_pos h1)
  have e2 := e0.trans (Go.Am.bif_t h1)
  refine AW.seq (AW.r1 hC [4] [] ⟨[(4, .bool false)], []⟩ ?_)
  exact AW.ret (AW.retE (β := Bool) (fun v => [⟨.bool, v⟩]) (fun v => []) (v := false) e2 (by kernel_rfl) rfl rfl)
 ·
  intro h3
  have h3q : ((List.length a : Nat) : Int) = ((List.length b : Nat) : Int) := (Go.Am.bne_neg h3)
  have e4 := e0.trans (Go.Am.bif_f h3)
  refine AW.kp [0, 1] [] ⟨[(0, .data (.slice (.slice (.named 1))) (a : List (List Val))), (1, .data (.slice (.slice (.named 1))) (b : List (List Val)))], []⟩ ?_
  refine AW.skip (AW.seq (AW.seq (AW.r1 hC [0, 1, 5] [] ⟨[(0, .data (.slice (.slice (.named 1))) (a : List (List Val))), (1, .data (.slice (.slice (.named 1))) (b : List (List Val))), (5, .int .i64 0)], []⟩ ?_)))
  refine AW.cutQ (α := Unit) (fun x => ⟨[], []⟩) (fun x => (True) ∧ (equalBags_l0 a b ((List.length a) - 0 + 1) 0) = (.inl ())) ?_ ?_
  ·
   skip
   refine AW.block (AW.loop (α := Nat) (fun x => ⟨[(0, .data (.slice (.slice (.named 1))) (a : List (List Val))), (1, .data (.slice (.slice (.named 1))) (b : List (List Val))), (5, .int .i64 ((x : Nat) : Int))], []⟩) (fun x => (True) ∧ ∃ k, (List.length a) - x < k ∧ (equalBags_l0 a b ((List.length a) - 0 + 1) 0) = equalBags_l0 a b k x) (fun x => (List.length a) - x) 0 (by kernel_rfl) ⟨?_, _, Nat.lt_succ_self _, rfl⟩ ?_)
   ·
    show True
    exact trivial
   ·
    intro i hR
    obtain ⟨hI0, k34, hk32, e33⟩ := hR
    replace hI0 : True := hI0
    replace hk32 : (List.length a) - i < k34 := hk32
    obtain ⟨k34q, rfl⟩ : ∃ k, k34 = k + 1 := ⟨k34 - 1, by omega⟩
    refine AW.seq (AW.seq (AW.r1 hC [0, 1, 5, 14] [] ⟨[(0, .data (.slice (.slice (.named 1))) (a : List (List Val))), (1, .data (.slice (.slice (.named 1))) (b : List (List Val))), (5, .int .i64 ((i : Nat) : Int)), (14, .bool (decide (((i : Nat) : Int) < ((List.length a : Nat) : Int))))], []⟩ ?_))
    refine AW.cd (decide (((i : Nat) : Int) < ((List.length a : Nat) : Int))) ?_ ?_
    ·
     intro h35
     have h35q : ((i : Nat) : Int) < ((List.length a : Nat) : Int) := (of_decide_eq_true h35)
     have e36 := e33.trans (Go.Am.bif_t h35)
     refine AW.kp [0, 1, 5] [] ⟨[(0, .data (.slice (.slice (.named 1))) (a : List (List Val))), (1, .data (.slice (.slice (.named 1))) (b : List (List Val))), (5, .int .i64 ((i : Nat) : Int))], []⟩ ?_
     refine AW.skip (AW.seq (AW.block (AW.seq (AW.d0 hC hM [0, 1, 5, 26] [] ⟨[(0, .data (.slice (.slice (.named 1))) (a : List (List Val))), (1, .data (.slice (.slice (.named 1))) (b : List (List Val))), (5, .int .i64 ((i : Nat) : Int)), (26, .bool (!(equalRows (List.getD a i []) (List.getD b i []))))], []⟩ [(0 ≤ ((i : Nat) : Int) ∧ ((i : Nat) : Int) < ((List.length a : Nat) : Int)), (0 ≤ ((i : Nat) : Int) ∧ ((i : Nat) : Int) < ((List.length b : Nat) : Int)), (True)] ?_ ?_))))
     ·
      refine ⟨?_, ?_, ?_, trivial⟩
      ·
       omega
      ·
       omega
      ·
       trivial
     refine AW.cd (!(equalRows (List.getD a i []) (List.getD b i []))) ?_ ?_
     ·
      intro h37
      have h37q : (equalRows (List.getD a i []) (List.getD b i [])) = false := (Go.Am.not_pos h37)
      have e38 := e36.trans (Go.Am.bif_t h37)
      refine AW.seq (AW.r1 hC [4] [] ⟨[(4, .bool false)], []⟩ ?_)
      refine AW.ret ?_
      have e39 := e4.trans (Go.Am.elim_r e38)
      exact AW.retE (β := Bool) (fun v => [⟨.bool, v⟩]) (fun v => []) (v := false) e39 (by kernel_rfl) rfl rfl
     ·
      intro h40
      have h40q : (equalRows (List.getD a i []) (List.getD b i [])) = true := (Go.Am.not_neg h40)
      have e41 := e36.trans (Go.Am.bif_f h40)
      refine AW.kp [0, 1, 5] [] ⟨[(0, .data (.slice (.slice (.named 1))) (a : List (List Val))), (1, .data (.slice (.slice (.named 1))) (b : List (List Val))), (5, .int .i64 ((i : Nat) : Int))], []⟩ ?_
      refine AW.skip (AW.r0 hC [0, 1, 5] [] ⟨[(0, .data (.slice (.slice (.named 1))) (a : List (List Val))), (1, .data (.slice (.slice (.named 1))) (b : List (List Val))), (5, .int .i64 ((i + 1 : Nat) : Int))], []⟩ [(-9223372036854775808 ≤ ((i + 1 : Nat) : Int) ∧ ((i + 1 : Nat) : Int) ≤ 9223372036854775807)] ?_ ?_)
      ·
       refine ⟨?_, trivial⟩
       ·
        omega
      refine AW.back (x := i) (i + 1) (by kernel_rfl) ⟨?_, k34q, ?_, e41⟩ ?_
      ·
       show True
       assumption
      ·
       show (List.length a) - (i + 1) < k34q
       omega
      ·
       show (List.length a) - (i + 1) < (List.length a) - i
       omega
    ·
     intro h42
     have h42q : ¬ (((i : Nat) : Int) < ((List.length a : Nat) : Int)) := (of_decide_eq_false h42)
     have e43 := e33.trans (Go.Am.bif_f h42)
     refine AW.kp [] [] ⟨[], []⟩ ?_
     refine AW.exit ?_
     refine AW.meet () (by kernel_rfl) ⟨?_, e43⟩
     show True
     assumption
  ·
   intro x hR
   obtain ⟨hJ0, e44⟩ := hR
   replace hJ0 : True := hJ0
   have e45 := e4.trans (Go.Am.elim_l e44)
   refine AW.seq (AW.r1 hC [4] [] ⟨[(4, .bool true)], []⟩ ?_)
   exact AW.ret (AW.retE (β := Bool) (fun v => [⟨.bool, v⟩]) (fun v => []) (v := true) e45 (by kernel_rfl) rfl rfl)

def equalTables (a : Tab) (b : Tab) : Bool := (bif ((Tab.Width a) == (Tab.Width b)) then (equalBags (Tab.Rows a) (Tab.Rows b)) else false)

def equalTables_sp : FnSpec := mkSpec [.val (.named 2), .val (.named 2)] [.val .bool] (fun (a : Tab) (b : Tab) => True) (fun (a : Tab) (b : Tab) => [⟨.bool, (equalTables a b)⟩])

theorem equalTables_ok : FnOK Try.prog 18 equalTables_sp := by
 have hC : CtxOK Try.prog (mkCtx tyL [(67, equalBags_sp)]) := CtxOK.cons equalBags_ok (CtxOK.nil tyOK)
 refine FnOK.of_body Try.func18 (by kernel_rfl) rfl (C := (mkCtx tyL [(67, equalBags_sp)])) hC.ty (by kernel_rfl) ?_
 intro (a : Tab) (b : Tab) hwf hpre E
 have hpre : True := hpre
 have hw_a : Wf ⟨(.named 2), (a : Tab)⟩ := hwf _ (List.Mem.head _)
 have hr_a_Width : -9223372036854775808 ≤ Tab.Width a ∧ Tab.Width a ≤ 9223372036854775807 := (hw_a.field (tv := ⟨(.int .i64), Tab.Width a⟩) (List.Mem.head _)).int_inv
 have hl_a_Rows : ((List.length (Tab.Rows a) : Nat) : Int) ≤ 9223372036854775807 := (hw_a.field (tv := ⟨(.slice (.slice (.named 1))), Tab.Rows a⟩) (List.Mem.tail _ (List.Mem.head _))).len
 have hw_b : Wf ⟨(.named 2), (b : Tab)⟩ := hwf _ (List.Mem.tail _ (List.Mem.head _))
 have hr_b_Width : -9223372036854775808 ≤ Tab.Width b ∧ Tab.Width b ≤ 9223372036854775807 := (hw_b.field (tv := ⟨(.int .i64), Tab.Width b⟩) (List.Mem.head _)).int_inv
 have hl_b_Rows : ((List.length (Tab.Rows b) : Nat) : Int) ≤ 9223372036854775807 := (hw_b.field (tv := ⟨(.slice (.slice (.named 1))), Tab.Rows b⟩) (List.Mem.tail _ (List.Mem.head _))).len
 have e0 : equalTables a b = equalTables a b := rfl
 refine AW.seq (AW.r1 hC [2, 3] [8, 12] ⟨[(2, .ref 8 1 0), (3, .ref 12 1 0)], [(8, .box 1 [.int .i64 (Tab.Width a), .data (.slice (.slice (.named 1))) ((Tab.Rows a) : List (List Val))]), (12, .box 1 [.int .i64 (Tab.Width b), .data (.slice (.slice (.named 1))) ((Tab.Rows b) : List (List Val))])]⟩ ?_)
 refine AW.seq (AW.r0 hC [4] [] ⟨[(4, .bool (bif ((Tab.Width a) == (Tab.Width b)) then (equalBags (Tab.Rows a) (Tab.Rows b)) else false))], []⟩ [((((Tab.Width a) == (Tab.Width b)) = true) → ((((Tab.Width a) == (Tab.Width b)) = true))), ((((Tab.Width a) == (Tab.Width b)) = true) → ((((Tab.Width a) == (Tab.Width b)) = true))), ((((Tab.Width a) == (Tab.Width b)) = true) → ((((Tab.Width a) == (Tab.Width b)) = true))), ((((Tab.Width a) == (Tab.Width b)) = true) → ((((Tab.Width a) == (Tab.Width b)) = true))), ((((Tab.Width a) == (Tab.Width b)) = true) → (True)), ((((Tab.Width a) == (Tab.Width b)) = true) → ((((Tab.Width a) == (Tab.Width b)) = true)))] ?_ ?_)
 ·
  refine ⟨?_, ?_, ?_, ?_, ?_, ?_, trivial⟩
  ·
   intro g1
   have g1p0 : (Tab.Width a) = (Tab.Width b) := (Go.Am.beq_pos g1)
   assumption
  ·
   intro g2
   have g2p0 : (Tab.Width a) = (Tab.Width b) := (Go.Am.beq_pos g2)
   assumption
  ·
   intro g3
   have g3p0 : (Tab.Width a) = (Tab.Width b) := (Go.Am.beq_pos g3)
   assumption
  ·
   intro g4
   have g4p0 : (Tab.Width a) = (Tab.Width b) := (Go.Am.beq_pos g4)
   assumption
  ·
   intro g5
   have g5p0 : (Tab.Width a) = (Tab.Width b) := (Go.Am.beq_pos g5)
   trivial
  ·
   intro g6
   have g6p0 : (Tab.Width a) = (Tab.Width b) := (Go.Am.beq_pos g6)
   assumption
 exact AW.ret (AW.retE (β := Bool) (fun v => [⟨.bool, v⟩]) (fun v => []) (v := (bif ((Tab.Width a) == (Tab.Width b)) then (equalBags (Tab.Rows a) (Tab.Rows b)) else false)) e0 (by kernel_rfl) rfl rfl)

def sTableOf_l0 (width : Int) (rows : List (List Val)) : Nat → Nat → Unit ⊕ (Tab × Bool)
 | 0, i => .inl ()
 | k + 1, i => (bif (decide (((i : Nat) : Int) < ((List.length rows : Nat) : Int))) then (bif (bif (!(validRow (List.getD rows i []))) then true else (((List.length (List.getD rows i []) : Nat) : Int) != width)) then (.inr ((Tab.mk 0 ([] : List (List Val))), false)) else (sTableOf_l0 width rows k (i + 1))) else (.inl ()))

def sTableOf (width : Int) (rows : List (List Val)) : Tab × Bool := (bif (bif (!(inRange width 1 6)) then true else (decide (400 < ((List.length rows : Nat) : Int)))) then ((Tab.mk 0 ([] : List (List Val))), false) else (Sum.elim (fun _ => ((tableOf width rows), true)) (fun r => r) (sTableOf_l0 width rows ((List.length rows) - 0 + 1) 0)))

def sTableOf_sp : FnSpec := mkSpec [.val (.int .i64), .val (.slice (.slice (.named 1)))] [.val (.named 2), .val .bool] (fun (width : Int) (rows : List (List Val)) => True) (fun (width : Int) (rows : List (List Val)) => [⟨(.named 2), ((sTableOf width rows).1)⟩, ⟨.bool, ((sTableOf width rows).2)⟩])

theorem sTableOf_ok : FnOK Try.prog 17 sTableOf_sp := by
 have hC : CtxOK Try.prog (mkCtx tyL [(64, inRange_sp), (65, validRow_sp), (66, tableOf_sp)]) := CtxOK.cons inRange_ok (CtxOK.cons validRow_ok (CtxOK.cons tableOf_ok (CtxOK.nil tyOK)))
 refine FnOK.of_body Try.func17 (by kernel_rfl) rfl (C := (mkCtx tyL [(64, inRange_sp), (65, validRow_sp), (66, tableOf_sp)])) hC.ty (by kernel_rfl) ?_
 intro (width : Int) (rows : List (List Val)) hwf hpre E
 have hpre : True := hpre
 have hw_width : Wf ⟨(.int .i64), (width : Int)⟩ := hwf _ (List.Mem.head _)
 have hr_width : -9223372036854775808 ≤ width ∧ width ≤ 9223372036854775807 := hw_width.int_inv
 have hw_rows : Wf ⟨(.slice (.slice (.named 1))), (rows : List (List Val))⟩ := hwf _ (List.Mem.tail _ (List.Mem.head _))
 have hl_rows : ((List.length rows : Nat) : Int) ≤ 9223372036854775807 := hw_rows.len
 have e0 : sTableOf width rows = sTableOf width rows := rfl
 refine AW.seq (AW.r1 hC [0, 1, 4] [16] ⟨[(0, .int .i64 width), (1, .data (.slice (.slice (.named 1))) (rows : List (List Val))), (4, .ref 16 1 0)], [(16, .box 1 [.int .i64 0, .nilsl])]⟩ ?_)
 refine AW.seq (AW.seq (AW.r0 hC [0, 1, 4, 14] [16] ⟨[(0, .int .i64 width), (1, .data (.slice (.slice (.named 1))) (rows : List (List Val))), (4, .ref 16 1 0), (14, .bool (bif (!(inRange width 1 6)) then true else (decide (400 < ((List.length rows : Nat) : Int)))))], [(16, .box 1 [.int .i64 0, .nilsl])]⟩ [(True), (((!(inRange width 1 6)) = false) → (((!(inRange width 1 6)) = false))), (((!(inRange width 1 6)) = false) → (((!(inRange width 1 6)) = false))), (((!(inRange width 1 6)) = false) → (((!(inRange width 1 6)) = false)))] ?_ ?_))
 ·
  refine ⟨?_, ?_, ?_, ?_, trivial⟩
  ·
   trivial
  ·
   intro g1
   have g1p0 : (inRange width 1 6) = true := (Go.Am.not_neg g1)
   assumption
  ·
   intro g2
   have g2p0 : (inRange width 1 6) = true := (Go.Am.not_neg g2)
   assumption
  ·
   intro g3
   have g3p0 : (inRange width 1 6) = true := (Go.Am.not_neg g3)
   assumption
 refine AW.cd (bif (!(inRange width 1 6)) then true else (decide (400 < ((List.length rows : Nat) : Int)))) ?_ ?_
 ·
  intro h4
  have h4q : ((inRange width 1 6) = false) ∨ (400 < ((List.length rows : Nat) : Int)) := (Or.imp (fun h => (Go.Am.not_pos h)) (fun h => (of_decide_eq_true h)) (Go.Am.or_pos h4))
  have e5 := e0.trans (Go.Am.bif_t h4)
  refine AW.seq (AW.r1 hC [4, 5] [16] ⟨[(4, .ref 16 1 0), (5, .bool false)], [(16, .box 1 [.int .i64 0, .nilsl])]⟩ ?_)
  exact AW.ret (AW.retE (β := Tab × Bool) (fun v => [⟨(.named 2), v.1⟩, ⟨.bool, v.2⟩]) (fun v => []) (v := ((Tab.mk 0 ([] : List (List Val))), false)) e5 (by kernel_rfl) rfl rfl)
 ·
  intro h6
  have h6q : ((inRange width 1 6) = true) ∧ (¬ (400 < ((List.length rows : Nat) : Int))) := (And.imp (fun h => (Go.Am.not_neg h)) (fun h => (of_decide_eq_false h)) (Go.Am.or_neg h6))
  have e7 := e0.trans (Go.Am.bif_f h6)
  refine AW.kp [0, 1, 4] [16] ⟨[(0, .int .i64 width), (1, .data (.slice (.slice (.named 1))) (rows : List (List Val))), (4, .ref 16 1 0)], [(16, .box 1 [.int .i64 0, .nilsl])]⟩ ?_
  refine AW.skip (AW.seq (AW.seq (AW.r1 hC [0, 1, 4, 6] [16] ⟨[(0, .int .i64 width), (1, .data (.slice (.slice (.named 1))) (rows : List (List Val))), (4, .ref 16 1 0), (6, .int .i64 0)], [(16, .box 1 [.int .i64 0, .nilsl])]⟩ ?_)))
  refine AW.cutQ (α := Unit) (fun x => ⟨[(0, .int .i64 width), (1, .data (.slice (.slice (.named 1))) (rows : List (List Val))), (4, .ref 16 1 0)], [(16, .box 1 [.int .i64 0, .nilsl])]⟩) (fun x => (RowsOK rows) ∧ (sTableOf_l0 width rows ((List.length rows) - 0 + 1) 0) = (.inl ())) ?_ ?_
  ·
   skip
   refine AW.block (AW.loop (α := Nat) (fun x => ⟨[(0, .int .i64 width), (1, .data (.slice (.slice (.named 1))) (rows : List (List Val))), (4, .ref 16 1 0), (6, .int .i64 ((x : Nat) : Int))], [(16, .box 1 [.int .i64 0, .nilsl])]⟩) (fun x => ((∀ j : Nat, j < x → VR (rows.getD j []) ∧ (((rows.getD j []).length : Nat) : Int) = width) ∧ x ≤ List.length rows) ∧ ∃ k, (List.length rows) - x < k ∧ (sTableOf_l0 width rows ((List.length rows) - 0 + 1) 0) = sTableOf_l0 width rows k x) (fun x => (List.length rows) - x) 0 (by kernel_rfl) ⟨?_, _, Nat.lt_succ_self _, rfl⟩ ?_)
   ·
    show (∀ j : Nat, j < 0 → VR (rows.getD j []) ∧ (((rows.getD j []).length : Nat) : Int) = width) ∧ 0 ≤ List.length rows
    exact ⟨fun j hj => absurd hj (Nat.not_lt_zero _), Nat.zero_le _⟩
   ·
    intro i hR
    obtain ⟨hI0, k37, hk35, e36⟩ := hR
    replace hI0 : (∀ j : Nat, j < i → VR (rows.getD j []) ∧ (((rows.getD j []).length : Nat) : Int) = width) ∧ i ≤ List.length rows := hI0
    replace hk35 : (List.length rows) - i < k37 := hk35
    obtain ⟨k37q, rfl⟩ : ∃ k, k37 = k + 1 := ⟨k37 - 1, by omega⟩
    refine AW.seq (AW.seq (AW.r1 hC [0, 1, 4, 6, 19] [16] ⟨[(0, .int .i64 width), (1, .data (.slice (.slice (.named 1))) (rows : List (List Val))), (4, .ref 16 1 0), (6, .int .i64 ((i : Nat) : Int)), (19, .bool (decide (((i : Nat) : Int) < ((List.length rows : Nat) : Int))))], [(16, .box 1 [.int .i64 0, .nilsl])]⟩ ?_))
    refine AW.cd (decide (((i : Nat) : Int) < ((List.length rows : Nat) : Int))) ?_ ?_
    ·
     intro h38
     have h38q : ((i : Nat) : Int) < ((List.length rows : Nat) : Int) := (of_decide_eq_true h38)
     have e39 := e36.trans (Go.Am.bif_t h38)
     refine AW.kp [0, 1, 4, 6] [16] ⟨[(0, .int .i64 width), (1, .data (.slice (.slice (.named 1))) (rows : List (List Val))), (4, .ref 16 1 0), (6, .int .i64 ((i : Nat) : Int))], [(16, .box 1 [.int .i64 0, .nilsl])]⟩ ?_
     refine AW.skip (AW.seq (AW.block (AW.seq (AW.r0 hC [0, 1, 4, 6, 36] [16] ⟨[(0, .int .i64 width), (1, .data (.slice (.slice (.named 1))) (rows : List (List Val))), (4, .ref 16 1 0), (6, .int .i64 ((i : Nat) : Int)), (36, .bool (bif (!(validRow (List.getD rows i []))) then true else (((List.length (List.getD rows i []) : Nat) : Int) != width)))], [(16, .box 1 [.int .i64 0, .nilsl])]⟩ [(0 ≤ ((i : Nat) : Int) ∧ ((i : Nat) : Int) < ((List.length rows : Nat) : Int)), (True), (((!(validRow (List.getD rows i []))) = false) → (((!(validRow (List.getD rows i []))) = false))), (((!(validRow (List.getD rows i []))) = false) → (((!(validRow (List.getD rows i []))) = false))), (((!(validRow (List.getD rows i []))) = false) → (0 ≤ ((i : Nat) : Int) ∧ ((i : Nat) : Int) < ((List.length rows : Nat) : Int))), (((!(validRow (List.getD rows i []))) = false) → (((!(validRow (List.getD rows i []))) = false))), (((!(validRow (List.getD rows i []))) = false) → (((!(validRow (List.getD rows i []))) = false))), (((!(validRow (List.getD rows i []))) = false) → (((!(validRow (List.getD rows i []))) = false))), (((!(validRow (List.getD rows i []))) = false) → (((!(validRow (List.getD rows i []))) = false))), (((!(validRow (List.getD rows i []))) = false) → (((!(validRow (List.getD rows i []))) = false)))] ?_ ?_))))
     ·
      refine ⟨?_, ?_, ?_, ?_, ?_, ?_, ?_, ?_, ?_, ?_, trivial⟩
      ·
       omega
      ·
       trivial
      ·
       intro g40
       have g40p0 : (validRow (List.getD rows i [])) = true := (Go.Am.not_neg g40)
       assumption
      ·
       intro g41
       have g41p0 : (validRow (List.getD rows i [])) = true := (Go.Am.not_neg g41)
       assumption
      ·
       intro g42
       have g42p0 : (validRow (List.getD rows i [])) = true := (Go.Am.not_neg g42)
       omega
      ·
       intro g43
       have g43p0 : (validRow (List.getD rows i [])) = true := (Go.Am.not_neg g43)
       assumption
      ·
       intro g44
       have g44p0 : (validRow (List.getD rows i [])) = true := (Go.Am.not_neg g44)
       assumption
      ·
       intro g45
       have g45p0 : (validRow (List.getD rows i [])) = true := (Go.Am.not_neg g45)
       assumption
      ·
       intro g46
       have g46p0 : (validRow (List.getD rows i [])) = true := (Go.Am.not_neg g46)
       assumption
      ·
       intro g47
       have g47p0 : (validRow (List.getD rows i [])) = true := (Go.Am.not_neg g47)
       assumption
     refine AW.cd (bif (!(validRow (List.getD rows i []))) then true else (((List.length (List.getD rows i []) : Nat) : Int) != width)) ?_ ?_
     ·
      intro h48
      have h48q : ((validRow (List.getD rows i [])) = false) ∨ (((List.length (List.getD rows i []) : Nat) : Int) ≠ width) := (Or.imp (fun h => (Go.Am.not_pos h)) (fun h => (Go.Am.bne_pos h)) (Go.Am.or_pos h48))
      have e49 := e39.trans (Go.Am.bif_t h48)
      refine AW.seq (AW.r1 hC [4, 5] [16] ⟨[(4, .ref 16 1 0), (5, .bool false)], [(16, .box 1 [.int .i64 0, .nilsl])]⟩ ?_)
      refine AW.ret ?_
      have e50 := e7.trans (Go.Am.elim_r e49)
      exact AW.retE (β := Tab × Bool) (fun v => [⟨(.named 2), v.1⟩, ⟨.bool, v.2⟩]) (fun v => []) (v := ((Tab.mk 0 ([] : List (List Val))), false)) e50 (by kernel_rfl) rfl rfl
     ·
      intro h51
      have h51q : ((validRow (List.getD rows i [])) = true) ∧ (((List.length (List.getD rows i []) : Nat) : Int) = width) := (And.imp (fun h => (Go.Am.not_neg h)) (fun h => (Go.Am.bne_neg h)) (Go.Am.or_neg h51))
      have e52 := e39.trans (Go.Am.bif_f h51)
      refine AW.kp [0, 1, 4, 6] [16] ⟨[(0, .int .i64 width), (1, .data (.slice (.slice (.named 1))) (rows : List (List Val))), (4, .ref 16 1 0), (6, .int .i64 ((i : Nat) : Int))], [(16, .box 1 [.int .i64 0, .nilsl])]⟩ ?_
      refine AW.skip (AW.r0 hC [0, 1, 4, 6] [16] ⟨[(0, .int .i64 width), (1, .data (.slice (.slice (.named 1))) (rows : List (List Val))), (4, .ref 16 1 0), (6, .int .i64 ((i + 1 : Nat) : Int))], [(16, .box 1 [.int .i64 0, .nilsl])]⟩ [(-9223372036854775808 ≤ ((i + 1 : Nat) : Int) ∧ ((i + 1 : Nat) : Int) ≤ 9223372036854775807)] ?_ ?_)
      ·
       refine ⟨?_, trivial⟩
       ·
        omega
      refine AW.back (x := i) (i + 1) (by kernel_rfl) ⟨?_, k37q, ?_, e52⟩ ?_
      ·
       show (∀ j : Nat, j < (i + 1) → VR (rows.getD j []) ∧ (((rows.getD j []).length : Nat) : Int) = width) ∧ (i + 1) ≤ List.length rows
       refine ⟨fun j hj => ?_, by omega⟩
       by_cases hjj : j < i
       ·
        exact hI0.1 j hjj
       ·
        obtain rfl : j = i := by omega
        exact ⟨validRow_iff.1 (h51q.1), h51q.2⟩
      ·
       show (List.length rows) - (i + 1) < k37q
       omega
      ·
       show (List.length rows) - (i + 1) < (List.length rows) - i
       omega
    ·
     intro h53
     have h53q : ¬ (((i : Nat) : Int) < ((List.length rows : Nat) : Int)) := (of_decide_eq_false h53)
     have e54 := e36.trans (Go.Am.bif_f h53)
     refine AW.kp [0, 1, 4] [16] ⟨[(0, .int .i64 width), (1, .data (.slice (.slice (.named 1))) (rows : List (List Val))), (4, .ref 16 1 0)], [(16, .box 1 [.int .i64 0, .nilsl])]⟩ ?_
     refine AW.exit ?_
     refine AW.meet () (by kernel_rfl) ⟨?_, e54⟩
     show RowsOK rows
     exact rows_of_getD fun j hj => hI0.1 j (by omega)
  ·
   intro x hR
   obtain ⟨hJ0, e55⟩ := hR
   replace hJ0 : RowsOK rows := hJ0
   have e56 := e7.trans (Go.Am.elim_l e55)
   refine AW.seq (AW.r0 hC [4, 5] [16] ⟨[(4, .ref 16 1 0), (5, .bool true)], [(16, .box 1 [.int .i64 (Tab.Width (tableOf width rows)), .data (.slice (.slice (.named 1))) ((Tab.Rows (tableOf width rows)) : List (List Val))])]⟩ [(∀ i : Nat, i < List.length rows → (List.length (List.getD rows i []) : Int) ≤ 1048576)] ?_ ?_)
   ·
    refine ⟨?_, trivial⟩
    ·
     intro i hi
     have := (hJ0.len (getD_mem rows i [] hi)).2
     omega
   exact AW.ret (AW.retE (β := Tab × Bool) (fun v => [⟨(.named 2), v.1⟩, ⟨.bool, v.2⟩]) (fun v => []) (v := ((tableOf width rows), true)) e56 (by kernel_rfl) rfl rfl)

end
end Go.Proofs.Ytjcjpeckfikfkaa
