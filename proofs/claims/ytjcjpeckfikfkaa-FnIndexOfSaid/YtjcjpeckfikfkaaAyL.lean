/-
  A part of the proof of this claim (AyL): what functions of the program compute, and plain facts of that. No conditions.
-/
import Derived.Test.YtjcjpeckfikfkaaAyK
set_option linter.all false
namespace Go.Proofs.Ytjcjpeckfikfkaa
open Go Go.Am
noncomputable section

def equalInts_l0 (a : List Int) (b : List Int) : Nat → Nat → Unit ⊕ Bool
 | 0, i => .inl ()
 | k + 1, i => (bif (decide (((i : Nat) : Int) < ((List.length a : Nat) : Int))) then (bif ((List.getD a i 0) != (List.getD b i 0)) then (.inr false) else (equalInts_l0 a b k (i + 1))) else (.inl ()))

def equalInts (a : List Int) (b : List Int) : Bool := (bif (((List.length a : Nat) : Int) != ((List.length b : Nat) : Int)) then false else (Sum.elim (fun _ => true) (fun r => r) (equalInts_l0 a b ((List.length a) - 0 + 1) 0)))

def equalInts_sp : FnSpec := mkSpec [.val (.slice (.int .i64)), .val (.slice (.int .i64))] [.val .bool] (fun (a : List Int) (b : List Int) => True) (fun (a : List Int) (b : List Int) => [⟨.bool, (equalInts a b)⟩])

theorem equalInts_ok : FnOK Try.prog 41 equalInts_sp := by
 have hC : CtxOK Try.prog (mkCtx tyL []) := CtxOK.nil tyOK
 have hM : Try.prog.follows .mixedOrders = true := Try.checked.mixed
 refine FnOK.of_body Try.func41 (by kernel_rfl) rfl (C := (mkCtx tyL [])) hC.ty (by kernel_rfl) ?_
 intro (a : List Int) (b : List Int) hwf hpre E
 have hpre : True := hpre
 have hw_a : Wf ⟨(.slice (.int .i64)), (a : List Int)⟩ := hwf _ (List.Mem.head _)
 have hl_a : ((List.length a : Nat) : Int) ≤ 9223372036854775807 := hw_a.len
 have hw_b : Wf ⟨(.slice (.int .i64)), (b : List Int)⟩ := hwf _ (List.Mem.tail _ (List.Mem.head _))
 have hl_b : ((List.length b : Nat) : Int) ≤ 9223372036854775807 := hw_b.len
 have e0 : equalInts a b = equalInts a b := rfl
 refine AW.seq (AW.r1 hC [0, 1] [] ⟨[(0, .data (.slice (.int .i64)) (a : List Int)), (1, .data (.slice (.int .i64)) (b : List Int))], []⟩ ?_)
 refine AW.seq (AW.seq (AW.r1 hC [0, 1, 10] [] ⟨[(0, .data (.slice (.int .i64)) (a : List Int)), (1, .data (.slice (.int .i64)) (b : List Int)), (10, .bool (((List.length a : Nat) : Int) != ((List.length b : Nat) : Int)))], []⟩ ?_))
 refine AW.cd (((List.length a : Nat) : Int) != ((List.length b : Nat) : Int)) ?_ ?_
 ·
  intro h1
  have h1q : ((List.length a : Nat) : Int) ≠ ((List.length b : Nat) : Int) := (Go.Am.bne_pos h1)
  have e2 := e0.trans (Go.Am.bif_t h1)
  refine AW.seq (AW.r1 hC [4] [] ⟨[(4, .bool false)], []⟩ ?_)
  exact AW.ret (AW.retE (β := Bool) (fun v => [⟨.bool, v⟩]) (fun v => []) (v := false) e2 (by kernel_rfl) rfl rfl)
 ·
  intro h3
  have h3q : ((List.length a : Nat) : Int) = ((List.length b : Nat) : Int) := (Go.Am.bne_neg h3)
  have e4 := e0.trans (Go.Am.bif_f h3)
  refine AW.kp [0, 1] [] ⟨[(0, .data (.slice (.int .i64)) (a : List Int)), (1, .data (.slice (.int .i64)) (b : List Int))], []⟩ ?_
  refine AW.skip (AW.seq (AW.seq (AW.r1 hC [0, 1, 5] [] ⟨[(0, .data (.slice (.int .i64)) (a : List Int)), (1, .data (.slice (.int .i64)) (b : List Int)), (5, .int .i64 0)], []⟩ ?_)))
  refine AW.cutQ (α := Unit) (fun x => ⟨[], []⟩) (fun x => (True) ∧ (equalInts_l0 a b ((List.length a) - 0 + 1) 0) = (.inl ())) ?_ ?_
  ·
   skip
   refine AW.block (AW.loop (α := Nat) (fun x => ⟨[(0, .data (.slice (.int .i64)) (a : List Int)), (1, .data (.slice (.int .i64)) (b : List Int)), (5, .int .i64 ((x : Nat) : Int))], []⟩) (fun x => (True) ∧ ∃ k, (List.length a) - x < k ∧ (equalInts_l0 a b ((List.length a) - 0 + 1) 0) = equalInts_l0 a b k x) (fun x => (List.length a) - x) 0 (by kernel_rfl) ⟨?_, _, Nat.lt_succ_self _, rfl⟩ ?_)
   ·
    show True
    exact trivial
   ·
    intro i hR
    obtain ⟨hI0, k34, hk32, e33⟩ := hR
    replace hI0 : True := hI0
    replace hk32 : (List.length a) - i < k34 := hk32
    obtain ⟨k34q, rfl⟩ : ∃ k, k34 = k + 1 := ⟨k34 - 1, by omega⟩
    refine AW.seq (AW.seq (AW.r1 hC [0, 1, 5, 14] [] ⟨[(0, .data (.slice (.int .i64)) (a : List Int)), (1, .data (.slice (.int .i64)) (b : List Int)), (5, .int .i64 ((i : Nat) : Int)), (14, .bool (decide (((i : Nat) : Int) < ((List.length a : Nat) : Int))))], []⟩ ?_))
    refine AW.cd (decide (((i : Nat) : Int) < ((List.length a : Nat) : Int))) ?_ ?_
    ·
     intro h35
     have h35q : ((i : Nat) : Int) < ((List.length a : Nat) : Int) := (of_decide_eq_true h35)
     have e36 := e33.trans (Go.Am.bif_t h35)
     refine AW.kp [0, 1, 5] [] ⟨[(0, .data (.slice (.int .i64)) (a : List Int)), (1, .data (.slice (.int .i64)) (b : List Int)), (5, .int .i64 ((i : Nat) : Int))], []⟩ ?_
     refine AW.skip (AW.seq (AW.block (AW.seq (AW.d0 hC hM [0, 1, 5, 25] [] ⟨[(0, .data (.slice (.int .i64)) (a : List Int)), (1, .data (.slice (.int .i64)) (b : List Int)), (5, .int .i64 ((i : Nat) : Int)), (25, .bool ((List.getD a i 0) != (List.getD b i 0)))], []⟩ [(0 ≤ ((i : Nat) : Int) ∧ ((i : Nat) : Int) < ((List.length a : Nat) : Int)), (0 ≤ ((i : Nat) : Int) ∧ ((i : Nat) : Int) < ((List.length b : Nat) : Int))] ?_ ?_))))
     ·
      refine ⟨?_, ?_, trivial⟩
      ·
       omega
      ·
       omega
     refine AW.cd ((List.getD a i 0) != (List.getD b i 0)) ?_ ?_
     ·
      intro h37
      have h37q : (List.getD a i 0) ≠ (List.getD b i 0) := (Go.Am.bne_pos h37)
      have e38 := e36.trans (Go.Am.bif_t h37)
      refine AW.seq (AW.r1 hC [4] [] ⟨[(4, .bool false)], []⟩ ?_)
      refine AW.ret ?_
      have e39 := e4.trans (Go.Am.elim_r e38)
      exact AW.retE (β := Bool) (fun v => [⟨.bool, v⟩]) (fun v => []) (v := false) e39 (by kernel_rfl) rfl rfl
     ·
      intro h40
      have h40q : (List.getD a i 0) = (List.getD b i 0) := (Go.Am.bne_neg h40)
      have e41 := e36.trans (Go.Am.bif_f h40)
      refine AW.kp [0, 1, 5] [] ⟨[(0, .data (.slice (.int .i64)) (a : List Int)), (1, .data (.slice (.int .i64)) (b : List Int)), (5, .int .i64 ((i : Nat) : Int))], []⟩ ?_
      refine AW.skip (AW.r0 hC [0, 1, 5] [] ⟨[(0, .data (.slice (.int .i64)) (a : List Int)), (1, .data (.slice (.int .i64)) (b : List Int)), (5, .int .i64 ((i + 1 : Nat) : Int))], []⟩ [(-9223372036854775808 ≤ ((i + 1 : Nat) : Int) ∧ ((i + 1 : Nat) : Int) ≤ 9223372036854775807)] ?_ ?_)
      ·
       refine ⟨?_, trivial⟩
       ·
        omega
      refine AW.back (x := i) (i + 1) (by kernel_rfl) ⟨?_, k34q, ?_, e41⟩ ?_
      ·
       show True
       assumption
      ·
       show (List.length a) - (i + 1) < k34q
       omega
      ·
       show (List.length a) - (i + 1) < (List.length a) - i
       omega
    ·
     intro h42
     have h42q : ¬ (((i : Nat) : Int) < ((List.length a : Nat) : Int)) := (of_decide_eq_false h42)
     have e43 := e33.trans (Go.Am.bif_f h42)
     refine AW.kp [] [] ⟨[], []⟩ ?_
     refine AW.exit ?_
     refine AW.meet () (by kernel_rfl) ⟨?_, e43⟩
     show True
     assumption
  ·
   intro x hR
   obtain ⟨hJ0, e44⟩ := hR
   replace hJ0 : True := hJ0
   have e45 := e4.trans (Go.Am.elim_l e44)
   refine AW.seq (AW.r1 hC [4] [] ⟨[(4, .bool true)], []⟩ ?_)
   exact AW.ret (AW.retE (β := Bool) (fun v => [⟨.bool, v⟩]) (fun v => []) (v := true) e45 (by kernel_rfl) rfl rfl)

def isIn_l0 (list : List Int) (n : Int) : Nat → Nat → Unit ⊕ Bool
 | 0, i => .inl ()
 | k + 1, i => (bif (decide (((i : Nat) : Int) < ((List.length list : Nat) : Int))) then (bif ((List.getD list i 0) == n) then (.inr true) else (isIn_l0 list n k (i + 1))) else (.inl ()))

def isIn (list : List Int) (n : Int) : Bool := (Sum.elim (fun _ => false) (fun r => r) (isIn_l0 list n ((List.length list) - 0 + 1) 0))

def isIn_sp : FnSpec := mkSpec [.val (.slice (.int .i64)), .val (.int .i64)] [.val .bool] (fun (list : List Int) (n : Int) => True) (fun (list : List Int) (n : Int) => [⟨.bool, (isIn list n)⟩])

theorem isIn_ok : FnOK Try.prog 43 isIn_sp := by
 have hC : CtxOK Try.prog (mkCtx tyL []) := CtxOK.nil tyOK
 refine FnOK.of_body Try.func43 (by kernel_rfl) rfl (C := (mkCtx tyL [])) hC.ty (by kernel_rfl) ?_
 intro (list : List Int) (n : Int) hwf hpre E
 have hpre : True := hpre
 have hw_list : Wf ⟨(.slice (.int .i64)), (list : List Int)⟩ := hwf _ (List.Mem.head _)
 have hl_list : ((List.length list : Nat) : Int) ≤ 9223372036854775807 := hw_list.len
 have hw_n : Wf ⟨(.int .i64), (n : Int)⟩ := hwf _ (List.Mem.tail _ (List.Mem.head _))
 have hr_n : -9223372036854775808 ≤ n ∧ n ≤ 9223372036854775807 := hw_n.int_inv
 have e0 : isIn list n = isIn list n := rfl
 refine AW.seq (AW.r1 hC [0, 1] [] ⟨[(0, .data (.slice (.int .i64)) (list : List Int)), (1, .int .i64 n)], []⟩ ?_)
 refine AW.seq (AW.seq (AW.r1 hC [0, 1, 5] [] ⟨[(0, .data (.slice (.int .i64)) (list : List Int)), (1, .int .i64 n), (5, .int .i64 0)], []⟩ ?_))
 refine AW.cutQ (α := Unit) (fun x => ⟨[], []⟩) (fun x => (True) ∧ (isIn_l0 list n ((List.length list) - 0 + 1) 0) = (.inl ())) ?_ ?_
 ·
  skip
  refine AW.block (AW.loop (α := Nat) (fun x => ⟨[(0, .data (.slice (.int .i64)) (list : List Int)), (1, .int .i64 n), (5, .int .i64 ((x : Nat) : Int))], []⟩) (fun x => (True) ∧ ∃ k, (List.length list) - x < k ∧ (isIn_l0 list n ((List.length list) - 0 + 1) 0) = isIn_l0 list n k x) (fun x => (List.length list) - x) 0 (by kernel_rfl) ⟨?_, _, Nat.lt_succ_self _, rfl⟩ ?_)
  ·
   show True
   exact trivial
  ·
   intro i hR
   obtain ⟨hI0, k30, hk28, e29⟩ := hR
   replace hI0 : True := hI0
   replace hk28 : (List.length list) - i < k30 := hk28
   obtain ⟨k30q, rfl⟩ : ∃ k, k30 = k + 1 := ⟨k30 - 1, by omega⟩
   refine AW.seq (AW.seq (AW.r1 hC [0, 1, 5, 9] [] ⟨[(0, .data (.slice (.int .i64)) (list : List Int)), (1, .int .i64 n), (5, .int .i64 ((i : Nat) : Int)), (9, .bool (decide (((i : Nat) : Int) < ((List.length list : Nat) : Int))))], []⟩ ?_))
   refine AW.cd (decide (((i : Nat) : Int) < ((List.length list : Nat) : Int))) ?_ ?_
   ·
    intro h31
    have h31q : ((i : Nat) : Int) < ((List.length list : Nat) : Int) := (of_decide_eq_true h31)
    have e32 := e29.trans (Go.Am.bif_t h31)
    refine AW.kp [0, 1, 5] [] ⟨[(0, .data (.slice (.int .i64)) (list : List Int)), (1, .int .i64 n), (5, .int .i64 ((i : Nat) : Int))], []⟩ ?_
    refine AW.skip (AW.seq (AW.block (AW.seq (AW.r0 hC [0, 1, 5, 17] [] ⟨[(0, .data (.slice (.int .i64)) (list : List Int)), (1, .int .i64 n), (5, .int .i64 ((i : Nat) : Int)), (17, .bool ((List.getD list i 0) == n))], []⟩ [(0 ≤ ((i : Nat) : Int) ∧ ((i : Nat) : Int) < ((List.length list : Nat) : Int))] ?_ ?_))))
    ·
     refine ⟨?_, trivial⟩
     ·
      omega
    refine AW.cd ((List.getD list i 0) == n) ?_ ?_
    ·
     intro h33
     have h33q : (List.getD list i 0) = n := (Go.Am.beq_pos h33)
     have e34 := e32.trans (Go.Am.bif_t h33)
     refine AW.seq (AW.r1 hC [4] [] ⟨[(4, .bool true)], []⟩ ?_)
     refine AW.ret ?_
     have e35 := e0.trans (Go.Am.elim_r e34)
     exact AW.retE (β := Bool) (fun v => [⟨.bool, v⟩]) (fun v => []) (v := true) e35 (by kernel_rfl) rfl rfl
    ·
     intro h36
     have h36q : (List.getD list i 0) ≠ n := (Go.Am.beq_neg h36)
     have e37 := e32.trans (Go.Am.bif_f h36)
     refine AW.kp [0, 1, 5] [] ⟨[(0, .data (.slice (.int .i64)) (list : List Int)), (1, .int .i64 n), (5, .int .i64 ((i : Nat) : Int))], []⟩ ?_
     refine AW.skip (AW.r0 hC [0, 1, 5] [] ⟨[(0, .data (.slice (.int .i64)) (list : List Int)), (1, .int .i64 n), (5, .int .i64 ((i + 1 : Nat) : Int))], []⟩ [(-9223372036854775808 ≤ ((i + 1 : Nat) : Int) ∧ ((i + 1 : Nat) : Int) ≤ 9223372036854775807)] ?_ ?_)
     ·
      refine ⟨?_, trivial⟩
      ·
       omega
     refine AW.back (x := i) (i + 1) (by kernel_rfl) ⟨?_, k30q, ?_, e37⟩ ?_
     ·
      show True
      assumption
     ·
      show (List.length list) - (i + 1) < k30q
      omega
     ·
      show (List.length list) - (i + 1) < (List.length list) - i
      omega
   ·
    intro h38
    have h38q : ¬ (((i : Nat) : Int) < ((List.length list : Nat) : Int)) := (of_decide_eq_false h38)
    have e39 := e29.trans (Go.Am.bif_f h38)
    refine AW.kp [] [] ⟨[], []⟩ ?_
    refine AW.exit ?_
    refine AW.meet () (by kernel_rfl) ⟨?_, e39⟩
    show True
    assumption
 ·
  intro x hR
  obtain ⟨hJ0, e40⟩ := hR
  replace hJ0 : True := hJ0
  have e41 := e0.trans (Go.Am.elim_l e40)
  refine AW.seq (AW.r1 hC [4] [] ⟨[(4, .bool false)], []⟩ ?_)
  exact AW.ret (AW.retE (β := Bool) (fun v => [⟨.bool, v⟩]) (fun v => []) (v := false) e41 (by kernel_rfl) rfl rfl)

theorem inv_ins {out : List Int} {i n : Nat} {k2 : Int} (h : (∀ x ∈ out, 0 ≤ x ∧ x < (i : Int)) ∧ out.length ≤ i ∧ i ≤ n) (hi : i < n) :
  (∀ x ∈ ((([] : List Int) ++ (List.take (Int.toNat k2) (List.drop 0 out))) ++ ([((i : Nat) : Int)] : List Int)) ++ (List.take (List.length out - (Int.toNat k2)) (List.drop (Int.toNat k2) out)), 0 ≤ x ∧ x < ((i + 1 : Nat) : Int)) ∧ (((([] : List Int) ++ (List.take (Int.toNat k2) (List.drop 0 out))) ++ ([((i : Nat) : Int)] : List Int)) ++ (List.take (List.length out - (Int.toNat k2)) (List.drop (Int.toNat k2) out))).length ≤ i + 1 ∧ i + 1 ≤ n := by
 refine ⟨fun x hx => ?_, ?_, hi⟩
 ·
  rw [List.nil_append, List.drop_zero] at hx
  rcases List.mem_append.1 hx with hx | hx
  ·
   rcases List.mem_append.1 hx with hx | hx
   ·
    have := h.1 x (List.mem_of_mem_take hx)
    omega
   ·
    rw [List.mem_singleton.1 hx]
    omega
  ·
   have := h.1 x (List.mem_of_mem_drop (List.mem_of_mem_take hx))
   omega
 ·
  simp only [List.nil_append, List.drop_zero, List.length_append, List.length_take, List.length_drop, List.length_cons, List.length_nil]
  have := h.2.1
  omega

def sIndexOf_l1 (t : Tab) (col : Int) (i : Nat) (out : List Int) : Nat → Int → Int
 | 0, k2 => k2
 | k + 1, k2 => (bif (bif (decide (0 < k2)) then (decide ((Val.N (List.getD (List.getD (Tab.Rows t) i []) (Int.toNat col) Val.zero)) < (Val.N (List.getD (List.getD (Tab.Rows t) (Int.toNat (List.getD out (Int.toNat (k2 - 1)) 0)) []) (Int.toNat col) Val.zero)))) else false) then (sIndexOf_l1 t col i out k (k2 - 1)) else k2)

def sIndexOf_l0 (t : Tab) (col : Int) : Nat → Nat → (List Int) → (List Int)
 | 0, i, out => out
 | k + 1, i, out => (bif (decide (((i : Nat) : Int) < ((List.length (Tab.Rows t) : Nat) : Int))) then (bif (Val.Null (List.getD (List.getD (Tab.Rows t) i []) (Int.toNat col) Val.zero)) then (sIndexOf_l0 t col k (i + 1) out) else (Go.Am.andThen (sIndexOf_l1 t col i out (Int.toNat ((List.length out : Nat) : Int) + 1) ((List.length out : Nat) : Int)) (fun z => (fun (k2 : Int) => (sIndexOf_l0 t col k (i + 1) (((([] : List Int) ++ (List.take (Int.toNat k2) (List.drop 0 out))) ++ ([((i : Nat) : Int)] : List Int)) ++ (List.take (List.length out - (Int.toNat k2)) (List.drop (Int.toNat k2) out))))) z))) else out)

def sIndexOf (t : Tab) (col : Int) : (List Int) := (bif (bif (!(validTable t)) then true else (!(inRange col 0 ((Tab.Width t) - 1)))) then ([] : List Int) else (Go.Am.andThen (sIndexOf_l0 t col ((List.length (Tab.Rows t)) - 0 + 1) 0 ([] : List Int)) (fun z => (fun (out : List Int) => out) z)))

def sIndexOf_sp : FnSpec := mkSpec [.val (.named 2), .val (.int .i64)] [.own (.int .i64)] (fun (t : Tab) (col : Int) => True) (fun (t : Tab) (col : Int) => [⟨(.slice (.int .i64)), (sIndexOf t col)⟩])

theorem sIndexOf_ok : FnOK Try.prog 42 sIndexOf_sp := by
 have hC : CtxOK Try.prog (mkCtx tyL [(64, inRange_sp), (77, validTable_sp)]) := CtxOK.cons inRange_ok (CtxOK.cons validTable_ok (CtxOK.nil tyOK))
 have hM : Try.prog.follows .mixedOrders = true := Try.checked.mixed
 refine FnOK.of_body Try.func42 (by kernel_rfl) rfl (C := (mkCtx tyL [(64, inRange_sp), (77, validTable_sp)])) hC.ty (by kernel_rfl) ?_
 intro (t : Tab) (col : Int) hwf hpre E
 have hpre : True := hpre
 have hw_t : Wf ⟨(.named 2), (t : Tab)⟩ := hwf _ (List.Mem.head _)
 have hr_t_Width : -9223372036854775808 ≤ Tab.Width t ∧ Tab.Width t ≤ 9223372036854775807 := (hw_t.field (tv := ⟨(.int .i64), Tab.Width t⟩) (List.Mem.head _)).int_inv
 have hl_t_Rows : ((List.length (Tab.Rows t) : Nat) : Int) ≤ 9223372036854775807 := (hw_t.field (tv := ⟨(.slice (.slice (.named 1))), Tab.Rows t⟩) (List.Mem.tail _ (List.Mem.head _))).len
 have hw_col : Wf ⟨(.int .i64), (col : Int)⟩ := hwf _ (List.Mem.tail _ (List.Mem.head _))
 have hr_col : -9223372036854775808 ≤ col ∧ col ≤ 9223372036854775807 := hw_col.int_inv
 have e0 : sIndexOf t col = sIndexOf t col := rfl
 refine AW.seq (AW.r1 hC [1, 2] [8] ⟨[(1, .int .i64 col), (2, .ref 8 1 0)], [(8, .box 1 [.int .i64 (Tab.Width t), .data (.slice (.slice (.named 1))) ((Tab.Rows t) : List (List Val))])]⟩ ?_)
 refine AW.seq (AW.r1 hC [1, 2, 5] [8, 36] ⟨[(1, .int .i64 col), (2, .ref 8 1 0), (5, .arr 36 1)], [(8, .box 1 [.int .i64 (Tab.Width t), .data (.slice (.slice (.named 1))) ((Tab.Rows t) : List (List Val))]), (36, .arr 1 (.int .i64) (([] : List Int) : List Int))]⟩ ?_)
 refine AW.seq (AW.seq (AW.wf_arr (id := 36) (ep := 1) (t := (.int .i64)) (xs := (([] : List Int) : List Int)) (by kernel_rfl) fun ha1 _ => ?_))
 replace ha1 : ((List.length ([] : List Int) : Nat) : Int) ≤ 4294967296 := ha1
 refine AW.r0 hC [1, 2, 5, 20] [8, 36] ⟨[(1, .int .i64 col), (2, .ref 8 1 0), (5, .arr 36 1), (20, .bool (bif (!(validTable t)) then true else (!(inRange col 0 ((Tab.Width t) - 1)))))], [(8, .box 1 [.int .i64 (Tab.Width t), .data (.slice (.slice (.named 1))) ((Tab.Rows t) : List (List Val))]), (36, .arr 1 (.int .i64) (([] : List Int) : List Int))]⟩ [(True), (((!(validTable t)) = false) → (((!(validTable t)) = false))), (((!(validTable t)) = false) → (((!(validTable t)) = false))), (((!(validTable t)) = false) → (-9223372036854775808 ≤ ((Tab.Width t) - 1) ∧ ((Tab.Width t) - 1) ≤ 9223372036854775807)), (((!(validTable t)) = false) → (((!(validTable t)) = false))), (((!(validTable t)) = false) → (((!(validTable t)) = false))), (((!(validTable t)) = false) → (True)), (((!(validTable t)) = false) → (((!(validTable t)) = false))), (((!(validTable t)) = false) → (((!(validTable t)) = false)))] ?_ ?_
 ·
  refine ⟨?_, ?_, ?_, ?_, ?_, ?_, ?_, ?_, ?_, trivial⟩
  ·
   trivial
  ·
   intro g2
   have g2p0 : (validTable t) = true := (Go.Am.not_neg g2)
   assumption
  ·
   intro g3
   have g3p0 : (validTable t) = true := (Go.Am.not_neg g3)
   assumption
  ·
   intro g4
   have g4p0 : (validTable t) = true := (Go.Am.not_neg g4)
   have := (validTable_iff.1 (by assumption)).w1
   omega
  ·
   intro g5
   have g5p0 : (validTable t) = true := (Go.Am.not_neg g5)
   assumption
  ·
   intro g6
   have g6p0 : (validTable t) = true := (Go.Am.not_neg g6)
   assumption
  ·
   intro g7
   have g7p0 : (validTable t) = true := (Go.Am.not_neg g7)
   trivial
  ·
   intro g8
   have g8p0 : (validTable t) = true := (Go.Am.not_neg g8)
   assumption
  ·
   intro g9
   have g9p0 : (validTable t) = true := (Go.Am.not_neg g9)
   assumption
 refine AW.cd (bif (!(validTable t)) then true else (!(inRange col 0 ((Tab.Width t) - 1)))) ?_ ?_
 ·
  intro h10
  have h10q : ((validTable t) = false) ∨ ((inRange col 0 ((Tab.Width t) - 1)) = false) := (Or.imp (fun h => (Go.Am.not_pos h)) (fun h => (Go.Am.not_pos h)) (Go.Am.or_pos h10))
  have e11 := e0.trans (Go.Am.bif_t h10)
  refine AW.seq (AW.wf_arr (id := 36) (ep := 1) (t := (.int .i64)) (xs := (([] : List Int) : List Int)) (by kernel_rfl) fun ha12 _ => ?_)
  replace ha12 : ((List.length ([] : List Int) : Nat) : Int) ≤ 4294967296 := ha12
  refine AW.r1 hC [4] [] ⟨[(4, .nilsl)], []⟩ ?_
  exact AW.ret (AW.retE (β := (List Int)) (fun v => [⟨(.slice (.int .i64)), v⟩]) (fun v => []) (v := ([] : List Int)) e11 (by kernel_rfl) rfl rfl)
 ·
  intro h13
  have h13q : ((validTable t) = true) ∧ ((inRange col 0 ((Tab.Width t) - 1)) = true) := (And.imp (fun h => (Go.Am.not_neg h)) (fun h => (Go.Am.not_neg h)) (Go.Am.or_neg h13))
  have e14 := e0.trans (Go.Am.bif_f h13)
  refine AW.kp [1, 2, 5] [8, 36] ⟨[(1, .int .i64 col), (2, .ref 8 1 0), (5, .arr 36 1)], [(8, .box 1 [.int .i64 (Tab.Width t), .data (.slice (.slice (.named 1))) ((Tab.Rows t) : List (List Val))]), (36, .arr 1 (.int .i64) (([] : List Int) : List Int))]⟩ ?_
  refine AW.skip (AW.seq (AW.seq (AW.wf_arr (id := 36) (ep := 1) (t := (.int .i64)) (xs := (([] : List Int) : List Int)) (by kernel_rfl) fun ha15 _ => ?_)))
  replace ha15 : ((List.length ([] : List Int) : Nat) : Int) ≤ 4294967296 := ha15
  have hsr := sr_ok h13q
  have hn4 := (validTable_iff.1 h13q.1).n4
  refine AW.r1 hC [1, 2, 5, 6] [8, 36] ⟨[(1, .int .i64 col), (2, .ref 8 1 0), (5, .arr 36 1), (6, .int .i64 0)], [(8, .box 1 [.int .i64 (Tab.Width t), .data (.slice (.slice (.named 1))) ((Tab.Rows t) : List (List Val))]), (36, .arr 1 (.int .i64) (([] : List Int) : List Int))]⟩ ?_
  refine AW.cutQ (α := (List Int)) (fun x => ⟨[(5, .arr 36 1)], [(36, .arr 1 (.int .i64) (x : List Int))]⟩) (fun x => (True) ∧ (sIndexOf_l0 t col ((List.length (Tab.Rows t)) - 0 + 1) 0 ([] : List Int)) = x) ?_ ?_
  ·
   skip
   refine AW.block (AW.loopR (α := Nat × (List Int)) (fun x => ⟨[(1, .int .i64 col), (2, .ref 8 1 0), (5, .arr 36 1), (6, .int .i64 ((x.1 : Nat) : Int))], [(8, .box 1 [.int .i64 (Tab.Width t), .data (.slice (.slice (.named 1))) ((Tab.Rows t) : List (List Val))]), (36, .arr 1 (.int .i64) (x.2 : List Int))]⟩) (fun x => ((∀ y ∈ x.2, 0 ≤ y ∧ y < (x.1 : Int)) ∧ List.length x.2 ≤ x.1 ∧ x.1 ≤ List.length t.Rows) ∧ ∃ k, (List.length (Tab.Rows t)) - x.1 < k ∧ (sIndexOf_l0 t col ((List.length (Tab.Rows t)) - 0 + 1) 0 ([] : List Int)) = sIndexOf_l0 t col k x.1 x.2) (fun x => (List.length (Tab.Rows t)) - x.1) (0, ([] : List Int)) (by kernel_rfl) ⟨?_, _, Nat.lt_succ_self _, rfl⟩ ?_)
   ·
    show (∀ y ∈ ([] : List Int), 0 ≤ y ∧ y < (0 : Int)) ∧ List.length ([] : List Int) ≤ 0 ∧ 0 ≤ List.length t.Rows
    exact ⟨fun x hx => (by cases hx), Nat.le_refl _, Nat.zero_le _⟩
   ·
    intro x hR
    obtain ⟨i, out⟩ := x
    obtain ⟨hI0, k135, hk133, e134⟩ := hR
    replace hI0 : (∀ y ∈ out, 0 ≤ y ∧ y < (i : Int)) ∧ List.length out ≤ i ∧ i ≤ List.length t.Rows := hI0
    replace hk133 : (List.length (Tab.Rows t)) - i < k135 := hk133
    obtain ⟨k135q, rfl⟩ : ∃ k, k135 = k + 1 := ⟨k135 - 1, by omega⟩
    have hom := hI0.1
    have hol := hI0.2.1
    refine AW.seq (AW.seq (AW.wf_arr (id := 36) (ep := 1) (t := (.int .i64)) (xs := (out : List Int)) (by kernel_rfl) fun ha136 _ => ?_))
    replace ha136 : ((List.length out : Nat) : Int) ≤ 4294967296 := ha136
    refine AW.r1 hC [1, 2, 5, 6, 25] [8, 36] ⟨[(1, .int .i64 col), (2, .ref 8 1 0), (5, .arr 36 1), (6, .int .i64 ((i : Nat) : Int)), (25, .bool (decide (((i : Nat) : Int) < ((List.length (Tab.Rows t) : Nat) : Int))))], [(8, .box 1 [.int .i64 (Tab.Width t), .data (.slice (.slice (.named 1))) ((Tab.Rows t) : List (List Val))]), (36, .arr 1 (.int .i64) (out : List Int))]⟩ ?_
    refine AW.cd (decide (((i : Nat) : Int) < ((List.length (Tab.Rows t) : Nat) : Int))) ?_ ?_
    ·
     intro h137
     have h137q : ((i : Nat) : Int) < ((List.length (Tab.Rows t) : Nat) : Int) := (of_decide_eq_true h137)
     have e138 := e134.trans (Go.Am.bif_t h137)
     refine AW.kp [1, 2, 5, 6] [8, 36] ⟨[(1, .int .i64 col), (2, .ref 8 1 0), (5, .arr 36 1), (6, .int .i64 ((i : Nat) : Int))], [(8, .box 1 [.int .i64 (Tab.Width t), .data (.slice (.slice (.named 1))) ((Tab.Rows t) : List (List Val))]), (36, .arr 1 (.int .i64) (out : List Int))]⟩ ?_
     refine AW.skip (AW.seq (AW.block (AW.seq (AW.seq (AW.wf_arr (id := 36) (ep := 1) (t := (.int .i64)) (xs := (out : List Int)) (by kernel_rfl) fun ha139 _ => ?_)))))
     replace ha139 : ((List.length out : Nat) : Int) ≤ 4294967296 := ha139
     refine AW.r0 hC [1, 2, 5, 6, 36] [8, 36] ⟨[(1, .int .i64 col), (2, .ref 8 1 0), (5, .arr 36 1), (6, .int .i64 ((i : Nat) : Int)), (36, .bool (Val.Null (List.getD (List.getD (Tab.Rows t) i []) (Int.toNat col) Val.zero)))], [(8, .box 1 [.int .i64 (Tab.Width t), .data (.slice (.slice (.named 1))) ((Tab.Rows t) : List (List Val))]), (36, .arr 1 (.int .i64) (out : List Int))]⟩ [(0 ≤ ((i : Nat) : Int) ∧ ((i : Nat) : Int) < ((List.length (Tab.Rows t) : Nat) : Int)), (0 ≤ col ∧ col < ((List.length (List.getD (Tab.Rows t) i []) : Nat) : Int))] ?_ ?_
     ·
      refine ⟨?_, ?_, trivial⟩
      ·
       omega
      ·
       have := hsr.2 i (by omega); have := hsr.1; omega
     refine AW.cd (Val.Null (List.getD (List.getD (Tab.Rows t) i []) (Int.toNat col) Val.zero)) ?_ ?_
     ·
      intro h140
      have h140q : (Val.Null (List.getD (List.getD (Tab.Rows t) i []) (Int.toNat col) Val.zero)) = true := h140
      have e141 := e138.trans (Go.Am.bif_t h140)
      refine AW.kp [1, 2, 5, 6] [8, 36] ⟨[(1, .int .i64 col), (2, .ref 8 1 0), (5, .arr 36 1), (6, .int .i64 ((i : Nat) : Int))], [(8, .box 1 [.int .i64 (Tab.Width t), .data (.slice (.slice (.named 1))) ((Tab.Rows t) : List (List Val))]), (36, .arr 1 (.int .i64) (out : List Int))]⟩ ?_
      refine AW.exit ?_
      refine AW.wf_arr (id := 36) (ep := 1) (t := (.int .i64)) (xs := (out : List Int)) (by kernel_rfl) fun ha142 _ => ?_
      replace ha142 : ((List.length out : Nat) : Int) ≤ 4294967296 := ha142
      refine AW.r0 hC [1, 2, 5, 6] [8, 36] ⟨[(1, .int .i64 col), (2, .ref 8 1 0), (5, .arr 36 1), (6, .int .i64 ((i + 1 : Nat) : Int))], [(8, .box 1 [.int .i64 (Tab.Width t), .data (.slice (.slice (.named 1))) ((Tab.Rows t) : List (List Val))]), (36, .arr 1 (.int .i64) (out : List Int))]⟩ [(-9223372036854775808 ≤ ((i + 1 : Nat) : Int) ∧ ((i + 1 : Nat) : Int) ≤ 9223372036854775807)] ?_ ?_
      ·
       refine ⟨?_, trivial⟩
       ·
        omega
      refine AW.backR (x := (i, out)) (i + 1, out) (Turn.eq (by kernel_rfl)) ⟨?_, k135q, ?_, e141⟩ ?_
      ·
       show (∀ y ∈ out, 0 ≤ y ∧ y < ((i + 1) : Int)) ∧ List.length out ≤ (i + 1) ∧ (i + 1) ≤ List.length t.Rows
       exact ⟨fun x hx => (by have := hI0.1 x hx; omega), by omega, by omega⟩
      ·
       show (List.length (Tab.Rows t)) - (i + 1) < k135q
       omega
      ·
       show (List.length (Tab.Rows t)) - (i + 1) < (List.length (Tab.Rows t)) - i
       omega
     ·
      intro h143
      have h143q : (Val.Null (List.getD (List.getD (Tab.Rows t) i []) (Int.toNat col) Val.zero)) = false := h143
      have e144 := e138.trans (Go.Am.bif_f h143)
      refine AW.kp [1, 2, 5, 6] [8, 36] ⟨[(1, .int .i64 col), (2, .ref 8 1 0), (5, .arr 36 1), (6, .int .i64 ((i : Nat) : Int))], [(8, .box 1 [.int .i64 (Tab.Width t), .data (.slice (.slice (.named 1))) ((Tab.Rows t) : List (List Val))]), (36, .arr 1 (.int .i64) (out : List Int))]⟩ ?_
      refine AW.skip (AW.seq (AW.wf_arr (id := 36) (ep := 1) (t := (.int .i64)) (xs := (out : List Int)) (by kernel_rfl) fun ha145 _ => ?_))
      replace ha145 : ((List.length out : Nat) : Int) ≤ 4294967296 := ha145
      refine AW.r1 hC [1, 2, 5, 6, 7] [8, 36] ⟨[(1, .int .i64 col), (2, .ref 8 1 0), (5, .arr 36 1), (6, .int .i64 ((i : Nat) : Int)), (7, .int .i64 ((List.length out : Nat) : Int))], [(8, .box 1 [.int .i64 (Tab.Width t), .data (.slice (.slice (.named 1))) ((Tab.Rows t) : List (List Val))]), (36, .arr 1 (.int .i64) (out : List Int))]⟩ ?_
      refine AW.seq (AW.cutQ (α := Int) (fun x => ⟨[(1, .int .i64 col), (2, .ref 8 1 0), (5, .arr 36 1), (6, .int .i64 ((i : Nat) : Int)), (7, .int .i64 x)], [(8, .box 1 [.int .i64 (Tab.Width t), .data (.slice (.slice (.named 1))) ((Tab.Rows t) : List (List Val))]), (36, .arr 1 (.int .i64) (out : List Int))]⟩) (fun x => (0 ≤ x ∧ x ≤ (List.length out : Int)) ∧ (sIndexOf_l1 t col i out (Int.toNat ((List.length out : Nat) : Int) + 1) ((List.length out : Nat) : Int)) = x) ?_ ?_)
      ·
       skip
       refine AW.block (AW.loop (α := Int) (fun x => ⟨[(1, .int .i64 col), (2, .ref 8 1 0), (5, .arr 36 1), (6, .int .i64 ((i : Nat) : Int)), (7, .int .i64 x)], [(8, .box 1 [.int .i64 (Tab.Width t), .data (.slice (.slice (.named 1))) ((Tab.Rows t) : List (List Val))]), (36, .arr 1 (.int .i64) (out : List Int))]⟩) (fun x => (0 ≤ x ∧ x ≤ (List.length out : Int)) ∧ ∃ k, Int.toNat x < k ∧ (sIndexOf_l1 t col i out (Int.toNat ((List.length out : Nat) : Int) + 1) ((List.length out : Nat) : Int)) = sIndexOf_l1 t col i out k x) (fun x => Int.toNat x) ((List.length out : Nat) : Int) (by kernel_rfl) ⟨?_, _, Nat.lt_succ_self _, rfl⟩ ?_)
       ·
        show 0 ≤ ((List.length out : Nat) : Int) ∧ ((List.length out : Nat) : Int) ≤ (List.length out : Int)
        omega
       ·
        intro k2 hR
        obtain ⟨hI1, k148, hk146, e147⟩ := hR
        replace hI1 : 0 ≤ k2 ∧ k2 ≤ (List.length out : Int) := hI1
        replace hk146 : Int.toNat k2 < k148 := hk146
        obtain ⟨k148q, rfl⟩ : ∃ k, k148 = k + 1 := ⟨k148 - 1, by omega⟩
        refine AW.seq (AW.seq (AW.wf_arr (id := 36) (ep := 1) (t := (.int .i64)) (xs := (out : List Int)) (by kernel_rfl) fun ha149 _ => ?_))
        replace ha149 : ((List.length out : Nat) : Int) ≤ 4294967296 := ha149
        refine AW.d0 hC hM [1, 2, 5, 6, 7, 65] [8, 36] ⟨[(1, .int .i64 col), (2, .ref 8 1 0), (5, .arr 36 1), (6, .int .i64 ((i : Nat) : Int)), (7, .int .i64 k2), (65, .bool (bif (decide (0 < k2)) then (decide ((Val.N (List.getD (List.getD (Tab.Rows t) i []) (Int.toNat col) Val.zero)) < (Val.N (List.getD (List.getD (Tab.Rows t) (Int.toNat (List.getD out (Int.toNat (k2 - 1)) 0)) []) (Int.toNat col) Val.zero)))) else false))], [(8, .box 1 [.int .i64 (Tab.Width t), .data (.slice (.slice (.named 1))) ((Tab.Rows t) : List (List Val))]), (36, .arr 1 (.int .i64) (out : List Int))]⟩ [(((decide (0 < k2)) = true) → (((decide (0 < k2)) = true))), (((decide (0 < k2)) = true) → (((decide (0 < k2)) = true))), (((decide (0 < k2)) = true) → (-9223372036854775808 ≤ (k2 - 1) ∧ (k2 - 1) ≤ 9223372036854775807)), (((decide (0 < k2)) = true) → (((decide (0 < k2)) = true))), (((decide (0 < k2)) = true) → (((decide (0 < k2)) = true))), (((decide (0 < k2)) = true) → (0 ≤ (k2 - 1) ∧ (k2 - 1) < ((List.length out : Nat) : Int))), (((decide (0 < k2)) = true) → (((decide (0 < k2)) = true))), (((decide (0 < k2)) = true) → (((decide (0 < k2)) = true))), (((decide (0 < k2)) = true) → (((decide (0 < k2)) = true))), (((decide (0 < k2)) = true) → (0 ≤ (List.getD out (Int.toNat (k2 - 1)) 0) ∧ (List.getD out (Int.toNat (k2 - 1)) 0) < ((List.length (Tab.Rows t) : Nat) : Int))), (((decide (0 < k2)) = true) → (((decide (0 < k2)) = true))), (((decide (0 < k2)) = true) → (((decide (0 < k2)) = true))), (((decide (0 < k2)) = true) → (((decide (0 < k2)) = true))), (((decide (0 < k2)) = true) → (0 ≤ col ∧ col < ((List.length (List.getD (Tab.Rows t) (Int.toNat (List.getD out (Int.toNat (k2 - 1)) 0)) []) : Nat) : Int))), (((decide (0 < k2)) = true) → (((decide (0 < k2)) = true))), (((decide (0 < k2)) = true) → (((decide (0 < k2)) = true))), (((decide (0 < k2)) = true) → (((decide (0 < k2)) = true))), (((decide (0 < k2)) = true) → (((decide (0 < k2)) = true))), (((decide (0 < k2)) = true) → (((decide (0 < k2)) = true))), (((decide (0 < k2)) = true) → (0 ≤ ((i : Nat) : Int) ∧ ((i : Nat) : Int) < ((List.length (Tab.Rows t) : Nat) : Int))), (((decide (0 < k2)) = true) → (((decide (0 < k2)) = true))), (((decide (0 < k2)) = true) → (((decide (0 < k2)) = true))), (((decide (0 < k2)) = true) → (((decide (0 < k2)) = true))), (((decide (0 < k2)) = true) → (0 ≤ col ∧ col < ((List.length (List.getD (Tab.Rows t) i []) : Nat) : Int))), (((decide (0 < k2)) = true) → (((decide (0 < k2)) = true))), (((decide (0 < k2)) = true) → (((decide (0 < k2)) = true))), (((decide (0 < k2)) = true) → (((decide (0 < k2)) = true))), (((decide (0 < k2)) = true) → (((decide (0 < k2)) = true))), (((decide (0 < k2)) = true) → (((decide (0 < k2)) = true)))] ?_ ?_
        ·
         refine ⟨?_, ?_, ?_, ?_, ?_, ?_, ?_, ?_, ?_, ?_, ?_, ?_, ?_, ?_, ?_, ?_, ?_, ?_, ?_, ?_, ?_, ?_, ?_, ?_, ?_, ?_, ?_, ?_, ?_, trivial⟩
         ·
          intro g150
          have g150p0 : 0 < k2 := (of_decide_eq_true g150)
          assumption
         ·
          intro g151
          have g151p0 : 0 < k2 := (of_decide_eq_true g151)
          assumption
         ·
          intro g152
          have g152p0 : 0 < k2 := (of_decide_eq_true g152)
          omega
         ·
          intro g153
          have g153p0 : 0 < k2 := (of_decide_eq_true g153)
          assumption
         ·
          intro g154
          have g154p0 : 0 < k2 := (of_decide_eq_true g154)
          assumption
         ·
          intro g155
          have g155p0 : 0 < k2 := (of_decide_eq_true g155)
          omega
         ·
          intro g156
          have g156p0 : 0 < k2 := (of_decide_eq_true g156)
          assumption
         ·
          intro g157
          have g157p0 : 0 < k2 := (of_decide_eq_true g157)
          assumption
         ·
          intro g158
          have g158p0 : 0 < k2 := (of_decide_eq_true g158)
          assumption
         ·
          intro g159
          have g159p0 : 0 < k2 := (of_decide_eq_true g159)
          have hx := hom _ (getD_mem out (Int.toNat (k2 - 1)) 0 (by omega)); first | omega | (have := hsr.2 (Int.toNat (List.getD out (Int.toNat (k2 - 1)) 0)) (by omega); have := hsr.1; omega)
         ·
          intro g160
          have g160p0 : 0 < k2 := (of_decide_eq_true g160)
          assumption
         ·
          intro g161
          have g161p0 : 0 < k2 := (of_decide_eq_true g161)
          assumption
         ·
          intro g162
          have g162p0 : 0 < k2 := (of_decide_eq_true g162)
          assumption
         ·
          intro g163
          have g163p0 : 0 < k2 := (of_decide_eq_true g163)
          have hx := hom _ (getD_mem out (Int.toNat (k2 - 1)) 0 (by omega)); first | omega | (have := hsr.2 (Int.toNat (List.getD out (Int.toNat (k2 - 1)) 0)) (by omega); have := hsr.1; omega)
         ·
          intro g164
          have g164p0 : 0 < k2 := (of_decide_eq_true g164)
          assumption
         ·
          intro g165
          have g165p0 : 0 < k2 := (of_decide_eq_true g165)
          assumption
         ·
          intro g166
          have g166p0 : 0 < k2 := (of_decide_eq_true g166)
          assumption
         ·
          intro g167
          have g167p0 : 0 < k2 := (of_decide_eq_true g167)
          assumption
         ·
          intro g168
          have g168p0 : 0 < k2 := (of_decide_eq_true g168)
          assumption
         ·
          intro g169
          have g169p0 : 0 < k2 := (of_decide_eq_true g169)
          omega
         ·
          intro g170
          have g170p0 : 0 < k2 := (of_decide_eq_true g170)
          assumption
         ·
          intro g171
          have g171p0 : 0 < k2 := (of_decide_eq_true g171)
          assumption
         ·
          intro g172
          have g172p0 : 0 < k2 := (of_decide_eq_true g172)
          assumption
         ·
          intro g173
          have g173p0 : 0 < k2 := (of_decide_eq_true g173)
          have := hsr.2 i (by omega); have := hsr.1; omega
         ·
          intro g174
          have g174p0 : 0 < k2 := (of_decide_eq_true g174)
          assumption
         ·
          intro g175
          have g175p0 : 0 < k2 := (of_decide_eq_true g175)
          assumption
         ·
          intro g176
          have g176p0 : 0 < k2 := (of_decide_eq_true g176)
          assumption
         ·
          intro g177
          have g177p0 : 0 < k2 := (of_decide_eq_true g177)
          assumption
         ·
          intro g178
          have g178p0 : 0 < k2 := (of_decide_eq_true g178)
          assumption
        refine AW.cd (bif (decide (0 < k2)) then (decide ((Val.N (List.getD (List.getD (Tab.Rows t) i []) (Int.toNat col) Val.zero)) < (Val.N (List.getD (List.getD (Tab.Rows t) (Int.toNat (List.getD out (Int.toNat (k2 - 1)) 0)) []) (Int.toNat col) Val.zero)))) else false) ?_ ?_
        ·
         intro h179
         have h179q : (0 < k2) ∧ ((Val.N (List.getD (List.getD (Tab.Rows t) i []) (Int.toNat col) Val.zero)) < (Val.N (List.getD (List.getD (Tab.Rows t) (Int.toNat (List.getD out (Int.toNat (k2 - 1)) 0)) []) (Int.toNat col) Val.zero))) := (And.imp (fun h => (of_decide_eq_true h)) (fun h => (of_decide_eq_true h)) (Go.Am.and_pos h179))
         have e180 := e147.trans (Go.Am.bif_t h179)
         refine AW.kp [1, 2, 5, 6, 7] [8, 36] ⟨[(1, .int .i64 col), (2, .ref 8 1 0), (5, .arr 36 1), (6, .int .i64 ((i : Nat) : Int)), (7, .int .i64 k2)], [(8, .box 1 [.int .i64 (Tab.Width t), .data (.slice (.slice (.named 1))) ((Tab.Rows t) : List (List Val))]), (36, .arr 1 (.int .i64) (out : List Int))]⟩ ?_
         refine AW.skip (AW.block (AW.wf_arr (id := 36) (ep := 1) (t := (.int .i64)) (xs := (out : List Int)) (by kernel_rfl) fun ha181 _ => ?_))
         replace ha181 : ((List.length out : Nat) : Int) ≤ 4294967296 := ha181
         refine AW.r0 hC [1, 2, 5, 6, 7] [8, 36] ⟨[(1, .int .i64 col), (2, .ref 8 1 0), (5, .arr 36 1), (6, .int .i64 ((i : Nat) : Int)), (7, .int .i64 (k2 - 1))], [(8, .box 1 [.int .i64 (Tab.Width t), .data (.slice (.slice (.named 1))) ((Tab.Rows t) : List (List Val))]), (36, .arr 1 (.int .i64) (out : List Int))]⟩ [(-9223372036854775808 ≤ (k2 - 1) ∧ (k2 - 1) ≤ 9223372036854775807)] ?_ ?_
         ·
          refine ⟨?_, trivial⟩
          ·
           omega
         refine AW.back (x := k2) (k2 - 1) (by kernel_rfl) ⟨?_, k148q, ?_, e180⟩ ?_
         ·
          show 0 ≤ (k2 - 1) ∧ (k2 - 1) ≤ (List.length out : Int)
          omega
         ·
          show Int.toNat (k2 - 1) < k148q
          omega
         ·
          show Int.toNat (k2 - 1) < Int.toNat k2
          omega
        ·
         intro h182
         have h182q : (¬ (0 < k2)) ∨ (¬ ((Val.N (List.getD (List.getD (Tab.Rows t) i []) (Int.toNat col) Val.zero)) < (Val.N (List.getD (List.getD (Tab.Rows t) (Int.toNat (List.getD out (Int.toNat (k2 - 1)) 0)) []) (Int.toNat col) Val.zero)))) := (Or.imp (fun h => (of_decide_eq_false h)) (fun h => (of_decide_eq_false h)) (Go.Am.and_neg h182))
         have e183 := e147.trans (Go.Am.bif_f h182)
         refine AW.kp [1, 2, 5, 6, 7] [8, 36] ⟨[(1, .int .i64 col), (2, .ref 8 1 0), (5, .arr 36 1), (6, .int .i64 ((i : Nat) : Int)), (7, .int .i64 k2)], [(8, .box 1 [.int .i64 (Tab.Width t), .data (.slice (.slice (.named 1))) ((Tab.Rows t) : List (List Val))]), (36, .arr 1 (.int .i64) (out : List Int))]⟩ ?_
         refine AW.exit ?_
         refine AW.meet k2 (by kernel_rfl) ⟨?_, e183⟩
         show 0 ≤ k2 ∧ k2 ≤ (List.length out : Int)
         omega
      ·
       intro k2 hR
       obtain ⟨hJ1, e184⟩ := hR
       replace hJ1 : 0 ≤ k2 ∧ k2 ≤ (List.length out : Int) := hJ1
       have e185 := e144.trans (Go.Am.then_eq e184)
       refine AW.seq (AW.wf_arr (id := 36) (ep := 1) (t := (.int .i64)) (xs := (out : List Int)) (by kernel_rfl) fun ha186 _ => ?_)
       replace ha186 : ((List.length out : Nat) : Int) ≤ 4294967296 := ha186
       refine AW.r0 hC [1, 2, 5, 6, 7, 8] [8, 36, 272] ⟨[(1, .int .i64 col), (2, .ref 8 1 0), (5, .arr 36 1), (6, .int .i64 ((i : Nat) : Int)), (7, .int .i64 k2), (8, .arr 272 1)], [(8, .box 1 [.int .i64 (Tab.Width t), .data (.slice (.slice (.named 1))) ((Tab.Rows t) : List (List Val))]), (36, .arr 1 (.int .i64) (out : List Int)), (272, .arr 1 (.int .i64) ((([] : List Int) ++ (List.take (Int.toNat k2) (List.drop 0 out))) : List Int))]⟩ [(0 ≤ k2 ∧ k2 ≤ ((List.length out : Nat) : Int)), (0 + ((List.length (List.take (Int.toNat k2) (List.drop 0 out)) : Nat) : Int) ≤ 4294967296)] ?_ ?_
       ·
        refine ⟨?_, ?_, trivial⟩
        ·
         omega
        ·
         simp only [List.nil_append, List.length_append, List.length_take, List.length_drop, List.length_cons, List.length_nil]; omega
       refine AW.seq (AW.wf_arr (id := 36) (ep := 1) (t := (.int .i64)) (xs := (out : List Int)) (by kernel_rfl) fun ha187 _ => ?_)
       replace ha187 : ((List.length out : Nat) : Int) ≤ 4294967296 := ha187
       refine AW.wf_arr (id := 272) (ep := 1) (t := (.int .i64)) (xs := ((([] : List Int) ++ (List.take (Int.toNat k2) (List.drop 0 out))) : List Int)) (by kernel_rfl) fun ha188 _ => ?_
       replace ha188 : ((List.length (([] : List Int) ++ (List.take (Int.toNat k2) (List.drop 0 out))) : Nat) : Int) ≤ 4294967296 := ha188
       refine AW.r0 hC [1, 2, 5, 6, 7, 8] [8, 36, 272] ⟨[(1, .int .i64 col), (2, .ref 8 1 0), (5, .arr 36 1), (6, .int .i64 ((i : Nat) : Int)), (7, .int .i64 k2), (8, .arr 272 1)], [(8, .box 1 [.int .i64 (Tab.Width t), .data (.slice (.slice (.named 1))) ((Tab.Rows t) : List (List Val))]), (36, .arr 1 (.int .i64) (out : List Int)), (272, .arr 1 (.int .i64) (((([] : List Int) ++ (List.take (Int.toNat k2) (List.drop 0 out))) ++ ([((i : Nat) : Int)] : List Int)) : List Int))]⟩ [(((List.length (([] : List Int) ++ (List.take (Int.toNat k2) (List.drop 0 out))) : Nat) : Int) + ((List.length ([((i : Nat) : Int)] : List Int) : Nat) : Int) ≤ 4294967296)] ?_ ?_
       ·
        refine ⟨?_, trivial⟩
        ·
         simp only [List.nil_append, List.length_append, List.length_take, List.length_drop, List.length_cons, List.length_nil]; omega
       refine AW.wf_arr (id := 36) (ep := 1) (t := (.int .i64)) (xs := (out : List Int)) (by kernel_rfl) fun ha189 _ => ?_
       replace ha189 : ((List.length out : Nat) : Int) ≤ 4294967296 := ha189
       refine AW.wf_arr (id := 272) (ep := 1) (t := (.int .i64)) (xs := (((([] : List Int) ++ (List.take (Int.toNat k2) (List.drop 0 out))) ++ ([((i : Nat) : Int)] : List Int)) : List Int)) (by kernel_rfl) fun ha190 _ => ?_
       replace ha190 : ((List.length ((([] : List Int) ++ (List.take (Int.toNat k2) (List.drop 0 out))) ++ ([((i : Nat) : Int)] : List Int)) : Nat) : Int) ≤ 4294967296 := ha190
       refine AW.r0 hC [1, 2, 5, 6] [8, 272] ⟨[(1, .int .i64 col), (2, .ref 8 1 0), (5, .arr 272 1), (6, .int .i64 ((i : Nat) : Int))], [(8, .box 1 [.int .i64 (Tab.Width t), .data (.slice (.slice (.named 1))) ((Tab.Rows t) : List (List Val))]), (272, .arr 1 (.int .i64) ((((([] : List Int) ++ (List.take (Int.toNat k2) (List.drop 0 out))) ++ ([((i : Nat) : Int)] : List Int)) ++ (List.take (List.length out - (Int.toNat k2)) (List.drop (Int.toNat k2) out))) : List Int))]⟩ [(0 ≤ k2 ∧ k2 ≤ ((List.length out : Nat) : Int)), (((List.length ((([] : List Int) ++ (List.take (Int.toNat k2) (List.drop 0 out))) ++ ([((i : Nat) : Int)] : List Int)) : Nat) : Int) + ((List.length (List.take (List.length out - (Int.toNat k2)) (List.drop (Int.toNat k2) out)) : Nat) : Int) ≤ 4294967296)] ?_ ?_
       ·
        refine ⟨?_, ?_, trivial⟩
        ·
         omega
        ·
         simp only [List.nil_append, List.length_append, List.length_take, List.length_drop, List.length_cons, List.length_nil]; omega
       refine AW.wf_arr (id := 272) (ep := 1) (t := (.int .i64)) (xs := ((((([] : List Int) ++ (List.take (Int.toNat k2) (List.drop 0 out))) ++ ([((i : Nat) : Int)] : List Int)) ++ (List.take (List.length out - (Int.toNat k2)) (List.drop (Int.toNat k2) out))) : List Int)) (by kernel_rfl) fun ha191 _ => ?_
       replace ha191 : ((List.length (((([] : List Int) ++ (List.take (Int.toNat k2) (List.drop 0 out))) ++ ([((i : Nat) : Int)] : List Int)) ++ (List.take (List.length out - (Int.toNat k2)) (List.drop (Int.toNat k2) out))) : Nat) : Int) ≤ 4294967296 := ha191
       refine AW.r0 hC [1, 2, 5, 6] [8, 272] ⟨[(1, .int .i64 col), (2, .ref 8 1 0), (5, .arr 272 1), (6, .int .i64 ((i + 1 : Nat) : Int))], [(8, .box 1 [.int .i64 (Tab.Width t), .data (.slice (.slice (.named 1))) ((Tab.Rows t) : List (List Val))]), (272, .arr 1 (.int .i64) ((((([] : List Int) ++ (List.take (Int.toNat k2) (List.drop 0 out))) ++ ([((i : Nat) : Int)] : List Int)) ++ (List.take (List.length out - (Int.toNat k2)) (List.drop (Int.toNat k2) out))) : List Int))]⟩ [(-9223372036854775808 ≤ ((i + 1 : Nat) : Int) ∧ ((i + 1 : Nat) : Int) ≤ 9223372036854775807)] ?_ ?_
       ·
        refine ⟨?_, trivial⟩
        ·
         omega
       refine AW.backR (x := (i, out)) (i + 1, (((([] : List Int) ++ (List.take (Int.toNat k2) (List.drop 0 out))) ++ ([((i : Nat) : Int)] : List Int)) ++ (List.take (List.length out - (Int.toNat k2)) (List.drop (Int.toNat k2) out)))) (Turn.of [1, 2, 5, 6] [8, 272] [(272, 36)] [1, 2, 5, 6] [8, 36] (by kernel_rfl)) ⟨?_, k135q, ?_, e185⟩ ?_
       ·
        show (∀ y ∈ (((([] : List Int) ++ (List.take (Int.toNat k2) (List.drop 0 out))) ++ ([((i : Nat) : Int)] : List Int)) ++ (List.take (List.length out - (Int.toNat k2)) (List.drop (Int.toNat k2) out))), 0 ≤ y ∧ y < ((i + 1) : Int)) ∧ List.length (((([] : List Int) ++ (List.take (Int.toNat k2) (List.drop 0 out))) ++ ([((i : Nat) : Int)] : List Int)) ++ (List.take (List.length out - (Int.toNat k2)) (List.drop (Int.toNat k2) out))) ≤ (i + 1) ∧ (i + 1) ≤ List.length t.Rows
        exact inv_ins hI0 (by omega)
       ·
        show (List.length (Tab.Rows t)) - (i + 1) < k135q
        omega
       ·
        show (List.length (Tab.Rows t)) - (i + 1) < (List.length (Tab.Rows t)) - i
        omega
    ·
     intro h192
     have h192q : ¬ (((i : Nat) : Int) < ((List.length (Tab.Rows t) : Nat) : Int)) := (of_decide_eq_false h192)
     have e193 := e134.trans (Go.Am.bif_f h192)
     refine AW.kp [5] [36] ⟨[(5, .arr 36 1)], [(36, .arr 1 (.int .i64) (out : List Int))]⟩ ?_
     refine AW.exit ?_
     refine AW.meet out (by kernel_rfl) ⟨?_, e193⟩
     show True
     trivial
  ·
   intro out hR
   obtain ⟨hJ0, e194⟩ := hR
   replace hJ0 : True := hJ0
   have e195 := e14.trans (Go.Am.then_eq e194)
   refine AW.seq (AW.wf_arr (id := 36) (ep := 1) (t := (.int .i64)) (xs := (out : List Int)) (by kernel_rfl) fun ha196 _ => ?_)
   replace ha196 : ((List.length out : Nat) : Int) ≤ 4294967296 := ha196
   refine AW.r1 hC [4] [36] ⟨[(4, .arr 36 1)], [(36, .arr 1 (.int .i64) (out : List Int))]⟩ ?_
   exact AW.ret (AW.retE (β := (List Int)) (fun v => [⟨(.slice (.int .i64)), v⟩]) (fun v => []) (v := out) e195 (by kernel_rfl) rfl rfl)

end
end Go.Proofs.Ytjcjpeckfikfkaa
