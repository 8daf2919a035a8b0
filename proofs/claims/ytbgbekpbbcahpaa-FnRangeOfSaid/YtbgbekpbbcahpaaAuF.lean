/-
  A part of the proof of this claim (AuF): what functions of the program compute, and plain facts of that. No conditions.
-/
import Derived.Test.YtbgbekpbbcahpaaAuE
set_option linter.all false
namespace Go.Proofs.Ytbgbekpbbcahpaa
open Go Go.Am
noncomputable section

def compareValues (a : Val) (b : Val) : Int := (bif (bif ((Val.Null a) == (Val.Null b)) then (bif ((Val.N a) == (Val.N b)) then true else false) else false) then 0 else (bif (bif (Val.Null a) then true else (bif (!(Val.Null b)) then (decide ((Val.N a) < (Val.N b))) else false)) then (-1) else 1))

def compareValues_sp : FnSpec := mkSpec [.val (.named 0), .val (.named 0)] [.val (.int .i64)] (fun (a : Val) (b : Val) => True) (fun (a : Val) (b : Val) => [⟨(.int .i64), (compareValues a b)⟩])

theorem compareValues_ok : FnOK Try.prog 71 compareValues_sp := by
 have hC : CtxOK Try.prog (mkCtx tyL []) := CtxOK.nil tyOK
 refine FnOK.of_body Try.func71 (by kernel_rfl) rfl (C := (mkCtx tyL [])) hC.ty (by kernel_rfl) ?_
 intro (a : Val) (b : Val) hwf hpre E
 have hpre : True := hpre
 have hw_a : Wf ⟨(.named 0), (a : Val)⟩ := hwf _ (List.Mem.head _)
 have hr_a_N := Val.wfl hw_a
 have hw_b : Wf ⟨(.named 0), (b : Val)⟩ := hwf _ (List.Mem.tail _ (List.Mem.head _))
 have hr_b_N := Val.wfl hw_b
 have e0 : compareValues a b = compareValues a b := rfl
 refine AW.seq (AW.r1 hC [2, 3] [8, 12] ⟨[(2, .ref 8 1 0), (3, .ref 12 1 0)], [(8, .box 1 [sB (Val.Null a), sI (Val.N a)]), (12, .box 1 [sB (Val.Null b), sI (Val.N b)])]⟩ ?_)
 refine AW.seq (AW.block (AW.seq (AW.r1 hC [2, 3, 5] [8, 12] ⟨[(2, .ref 8 1 0), (3, .ref 12 1 0), (5, sB (bif ((Val.Null a) == (Val.Null b)) then (bif ((Val.N a) == (Val.N b)) then true else false) else false))], [(8, .box 1 [sB (Val.Null a), sI (Val.N a)]), (12, .box 1 [sB (Val.Null b), sI (Val.N b)])]⟩ ?_)))
 refine AW.cd (bif ((Val.Null a) == (Val.Null b)) then (bif ((Val.N a) == (Val.N b)) then true else false) else false) ?_ ?_
 ·
  intro h1
  have h1q : (((Val.Null a) == (Val.Null b)) = true) ∧ (((Val.N a) = (Val.N b)) ∧ (true = true)) := (And.imp (fun h => h) (fun h => (And.imp (fun h => (Go.Am.beq_pos h)) (fun h => h) (Go.Am.and_pos h))) (Go.Am.and_pos h1))
  have e2 := e0.trans (Go.Am.bif_t h1)
  refine AW.seq (AW.r1 hC [4] [] ⟨[(4, sI 0)], []⟩ ?_)
  exact AW.ret (AW.rI 0 e2)
 ·
  intro h3
  have h3q : (((Val.Null a) == (Val.Null b)) = false) ∨ (((Val.N a) ≠ (Val.N b)) ∨ (true = false)) := (Or.imp (fun h => h) (fun h => (Or.imp (fun h => (Go.Am.beq_neg h)) (fun h => h) (Go.Am.and_neg h))) (Go.Am.and_neg h3))
  have e4 := e0.trans (Go.Am.bif_f h3)
  refine AW.seq (AW.r0 hC [9] [] ⟨[(9, sB (bif (Val.Null a) then true else (bif (!(Val.Null b)) then (decide ((Val.N a) < (Val.N b))) else false)))], []⟩ [(((Val.Null a) = false) → (((Val.Null a) = false))), (((Val.Null a) = false) → (((Val.Null a) = false))), (((Val.Null a) = false) → (((Val.Null a) = false))), ((((Val.Null a) = false) ∧ ((!(Val.Null b)) = true)) → ((((Val.Null a) = false) ∧ ((!(Val.Null b)) = true)))), ((((Val.Null a) = false) ∧ ((!(Val.Null b)) = true)) → ((((Val.Null a) = false) ∧ ((!(Val.Null b)) = true)))), ((((Val.Null a) = false) ∧ ((!(Val.Null b)) = true)) → ((((Val.Null a) = false) ∧ ((!(Val.Null b)) = true)))), ((((Val.Null a) = false) ∧ ((!(Val.Null b)) = true)) → ((((Val.Null a) = false) ∧ ((!(Val.Null b)) = true)))), (((Val.Null a) = false) → (((Val.Null a) = false))), (((Val.Null a) = false) → (((!(Val.Null b)) = true) → ((((Val.Null a) = false) ∧ ((!(Val.Null b)) = true))))), (((Val.Null a) = false) → (((Val.Null a) = false)))] ?_ ?_)
  ·
   refine ⟨?_, ?_, ?_, ?_, ?_, ?_, ?_, ?_, ?_, ?_, trivial⟩
   ·
    intro g5
    have g5p0 : (Val.Null a) = false := g5
    assumption
   ·
    intro g6
    have g6p0 : (Val.Null a) = false := g6
    assumption
   ·
    intro g7
    have g7p0 : (Val.Null a) = false := g7
    assumption
   ·
    intro g8
    have g8p0 : (Val.Null a) = false := (g8).1
    have g8p1 : (Val.Null b) = false := (Go.Am.not_pos (g8).2)
    assumption
   ·
    intro g9
    have g9p0 : (Val.Null a) = false := (g9).1
    have g9p1 : (Val.Null b) = false := (Go.Am.not_pos (g9).2)
    assumption
   ·
    intro g10
    have g10p0 : (Val.Null a) = false := (g10).1
    have g10p1 : (Val.Null b) = false := (Go.Am.not_pos (g10).2)
    assumption
   ·
    intro g11
    have g11p0 : (Val.Null a) = false := (g11).1
    have g11p1 : (Val.Null b) = false := (Go.Am.not_pos (g11).2)
    assumption
   ·
    intro g12
    have g12p0 : (Val.Null a) = false := g12
    assumption
   ·
    intro g13
    have g13p0 : (Val.Null a) = false := g13
    intro g14
    have g14p0 : (Val.Null b) = false := (Go.Am.not_pos g14)
    exact ⟨by assumption, by assumption⟩
   ·
    intro g15
    have g15p0 : (Val.Null a) = false := g15
    assumption
  refine AW.cd (bif (Val.Null a) then true else (bif (!(Val.Null b)) then (decide ((Val.N a) < (Val.N b))) else false)) ?_ ?_
  ·
   intro h16
   have h16q : ((Val.Null a) = true) ∨ (((Val.Null b) = false) ∧ ((Val.N a) < (Val.N b))) := (Or.imp (fun h => h) (fun h => (And.imp (fun h => (Go.Am.not_pos h)) (fun h => (of_decide_eq_true h)) (Go.Am.and_pos h))) (Go.Am.or_pos h16))
   have e17 := e4.trans (Go.Am.bif_t h16)
   refine AW.seq (AW.r1 hC [4] [] ⟨[(4, sI (-1))], []⟩ ?_)
   exact AW.ret (AW.rI (-1) e17)
  ·
   intro h18
   have h18q : ((Val.Null a) = false) ∧ (((Val.Null b) = true) ∨ (¬ ((Val.N a) < (Val.N b)))) := (And.imp (fun h => h) (fun h => (Or.imp (fun h => (Go.Am.not_neg h)) (fun h => (of_decide_eq_false h)) (Go.Am.and_neg h))) (Go.Am.or_neg h18))
   have e19 := e4.trans (Go.Am.bif_f h18)
   refine AW.kp [] [] ⟨[], []⟩ ?_
   refine AW.skip (AW.seq (AW.r1 hC [4] [] ⟨[(4, sI 1)], []⟩ ?_))
   exact AW.ret (AW.rI 1 e19)

def compareRows_l0 (a : List Val) (b : List Val) : Nat → Nat → Unit ⊕ Int
 | 0, i => .inl ()
 | k + 1, i => (bif (bif (decide (((i : Nat) : Int) < ((List.length a : Nat) : Int))) then (decide (((i : Nat) : Int) < ((List.length b : Nat) : Int))) else false) then (bif ((compareValues (List.getD a i Val.zero) (List.getD b i Val.zero)) != 0) then (.inr (compareValues (List.getD a i Val.zero) (List.getD b i Val.zero))) else (compareRows_l0 a b k (i + 1))) else (.inl ()))

def compareRows (a : List Val) (b : List Val) : Int := (Sum.elim (fun _ => (((List.length a : Nat) : Int) - ((List.length b : Nat) : Int))) (fun r => r) (compareRows_l0 a b (List.length a - 0 + 1) 0))

def compareRows_sp : FnSpec := mkSpec [.val (.slice (.named 0)), .val (.slice (.named 0))] [.val (.int .i64)] (fun (a : List Val) (b : List Val) => True) (fun (a : List Val) (b : List Val) => [⟨(.int .i64), (compareRows a b)⟩])

theorem compareRows_ok : FnOK Try.prog 70 compareRows_sp := by
 have hC : CtxOK Try.prog (mkCtx tyL [(71, compareValues_sp)]) := CtxOK.cons compareValues_ok (CtxOK.nil tyOK)
 have hM : Try.prog.follows .mixedOrders = true := Try.checked.mixed
 refine FnOK.of_body Try.func70 (by kernel_rfl) rfl (C := (mkCtx tyL [(71, compareValues_sp)])) hC.ty (by kernel_rfl) ?_
 intro (a : List Val) (b : List Val) hwf hpre E
 have hpre : True := hpre
 have hw_a : Wf ⟨(.slice (.named 0)), (a : List Val)⟩ := hwf _ (List.Mem.head _)
 have hl_a : ((List.length a : Nat) : Int) ≤ 9223372036854775807 := hw_a.len
 have hw_b : Wf ⟨(.slice (.named 0)), (b : List Val)⟩ := hwf _ (List.Mem.tail _ (List.Mem.head _))
 have hl_b : ((List.length b : Nat) : Int) ≤ 9223372036854775807 := hw_b.len
 have e0 : compareRows a b = compareRows a b := rfl
 refine AW.seq (AW.r1 hC [0, 1] [] ⟨[(0, sD10 a), (1, sD10 b)], []⟩ ?_)
 refine AW.seq (AW.seq (AW.r1 hC [0, 1, 5] [] ⟨[(0, sD10 a), (1, sD10 b), (5, sI 0)], []⟩ ?_))
 refine AW.cutQ (α := Unit) (fun x => ⟨[(0, sD10 a), (1, sD10 b)], []⟩) (fun x => (True) ∧ (compareRows_l0 a b (List.length a - 0 + 1) 0) = (.inl ())) ?_ ?_
 ·
  skip
  refine AW.block (AW.loop (α := Nat) (fun x => ⟨[(0, sD10 a), (1, sD10 b), (5, sI ((x : Nat) : Int))], []⟩) (fun x => (True) ∧ ∃ k, List.length a - x < k ∧ (compareRows_l0 a b (List.length a - 0 + 1) 0) = compareRows_l0 a b k x) (fun x => List.length a - x) 0 (by kernel_rfl) ⟨?_, _, Nat.lt_succ_self _, rfl⟩ ?_)
  ·
   show True
   exact trivial
  ·
   intro i hR
   obtain ⟨hI0, k30, hk28, e29⟩ := hR
   replace hI0 : True := hI0
   replace hk28 : List.length a - i < k30 := hk28
   obtain ⟨k30q, rfl⟩ : ∃ k, k30 = k + 1 := ⟨k30 - 1, by omega⟩
   refine AW.seq (AW.seq (AW.r0 hC [0, 1, 5, 16] [] ⟨[(0, sD10 a), (1, sD10 b), (5, sI ((i : Nat) : Int)), (16, sB (bif (decide (((i : Nat) : Int) < ((List.length a : Nat) : Int))) then (decide (((i : Nat) : Int) < ((List.length b : Nat) : Int))) else false))], []⟩ [(((decide (((i : Nat) : Int) < ((List.length a : Nat) : Int))) = true) → (((decide (((i : Nat) : Int) < ((List.length a : Nat) : Int))) = true))), (((decide (((i : Nat) : Int) < ((List.length a : Nat) : Int))) = true) → (((decide (((i : Nat) : Int) < ((List.length a : Nat) : Int))) = true))), (((decide (((i : Nat) : Int) < ((List.length a : Nat) : Int))) = true) → (((decide (((i : Nat) : Int) < ((List.length a : Nat) : Int))) = true))), (((decide (((i : Nat) : Int) < ((List.length a : Nat) : Int))) = true) → (((decide (((i : Nat) : Int) < ((List.length a : Nat) : Int))) = true)))] ?_ ?_))
   ·
    refine ⟨?_, ?_, ?_, ?_, trivial⟩
    ·
     intro g31
     have g31p0 : ((i : Nat) : Int) < ((List.length a : Nat) : Int) := (of_decide_eq_true g31)
     assumption
    ·
     intro g32
     have g32p0 : ((i : Nat) : Int) < ((List.length a : Nat) : Int) := (of_decide_eq_true g32)
     assumption
    ·
     intro g33
     have g33p0 : ((i : Nat) : Int) < ((List.length a : Nat) : Int) := (of_decide_eq_true g33)
     assumption
    ·
     intro g34
     have g34p0 : ((i : Nat) : Int) < ((List.length a : Nat) : Int) := (of_decide_eq_true g34)
     assumption
   refine AW.cd (bif (decide (((i : Nat) : Int) < ((List.length a : Nat) : Int))) then (decide (((i : Nat) : Int) < ((List.length b : Nat) : Int))) else false) ?_ ?_
   ·
    intro h35
    have h35q : (((i : Nat) : Int) < ((List.length a : Nat) : Int)) ∧ (((i : Nat) : Int) < ((List.length b : Nat) : Int)) := (And.imp (fun h => (of_decide_eq_true h)) (fun h => (of_decide_eq_true h)) (Go.Am.and_pos h35))
    have e36 := e29.trans (Go.Am.bif_t h35)
    refine AW.kp [0, 1, 5] [] ⟨[(0, sD10 a), (1, sD10 b), (5, sI ((i : Nat) : Int))], []⟩ ?_
    refine AW.skip (AW.seq (AW.block (AW.seq (AW.d0 hC hM [0, 1, 5, 6] [] ⟨[(0, sD10 a), (1, sD10 b), (5, sI ((i : Nat) : Int)), (6, sI (compareValues (List.getD a i Val.zero) (List.getD b i Val.zero)))], []⟩ [IX ((i : Nat) : Int) ((List.length a : Nat) : Int), IX ((i : Nat) : Int) ((List.length b : Nat) : Int), (True)] ?_ ?_))))
    ·
     refine ⟨?_, ?_, ?_, trivial⟩
     ·
      refine IX.of ?_
      omega
     ·
      refine IX.of ?_
      omega
     ·
      trivial
    refine AW.seq (AW.r1 hC [0, 1, 5, 6, 29] [] ⟨[(0, sD10 a), (1, sD10 b), (5, sI ((i : Nat) : Int)), (6, sI (compareValues (List.getD a i Val.zero) (List.getD b i Val.zero))), (29, sB ((compareValues (List.getD a i Val.zero) (List.getD b i Val.zero)) != 0))], []⟩ ?_)
    refine AW.cd ((compareValues (List.getD a i Val.zero) (List.getD b i Val.zero)) != 0) ?_ ?_
    ·
     intro h37
     have h37q := (Go.Am.bne_pos h37)
     have e38 := e36.trans (Go.Am.bif_t h37)
     refine AW.seq (AW.r1 hC [4] [] ⟨[(4, sI (compareValues (List.getD a i Val.zero) (List.getD b i Val.zero)))], []⟩ ?_)
     refine AW.ret ?_
     have e39 := e0.trans (Go.Am.elim_r e38)
     exact AW.rI (compareValues (List.getD a i Val.zero) (List.getD b i Val.zero)) e39
    ·
     intro h40
     have h40q := (Go.Am.bne_neg h40)
     have e41 := e36.trans (Go.Am.bif_f h40)
     refine AW.kp [0, 1, 5] [] ⟨[(0, sD10 a), (1, sD10 b), (5, sI ((i : Nat) : Int))], []⟩ ?_
     refine AW.skip (AW.r0 hC [0, 1, 5] [] ⟨[(0, sD10 a), (1, sD10 b), (5, sI ((i + 1 : Nat) : Int))], []⟩ [R64 ((i + 1 : Nat) : Int)] ?_ ?_)
     ·
      refine ⟨?_, trivial⟩
      ·
       refine R64.of ?_
       omega
     refine AW.back (x := i) (i + 1) (by kernel_rfl) ⟨?_, k30q, ?_, e41⟩ ?_
     ·
      show True
      assumption
     ·
      show List.length a - (i + 1) < k30q
      omega
     ·
      show List.length a - (i + 1) < List.length a - i
      omega
   ·
    intro h42
    have h42q : (¬ (((i : Nat) : Int) < ((List.length a : Nat) : Int))) ∨ (¬ (((i : Nat) : Int) < ((List.length b : Nat) : Int))) := (Or.imp (fun h => (of_decide_eq_false h)) (fun h => (of_decide_eq_false h)) (Go.Am.and_neg h42))
    have e43 := e29.trans (Go.Am.bif_f h42)
    refine AW.kp [0, 1] [] ⟨[(0, sD10 a), (1, sD10 b)], []⟩ ?_
    refine AW.exit ?_
    refine AW.meet () (by kernel_rfl) ⟨?_, e43⟩
    show True
    assumption
 ·
  intro x hR
  obtain ⟨hJ0, e44⟩ := hR
  replace hJ0 : True := hJ0
  have e45 := e0.trans (Go.Am.elim_l e44)
  refine AW.seq (AW.r0 hC [4] [] ⟨[(4, sI (((List.length a : Nat) : Int) - ((List.length b : Nat) : Int)))], []⟩ [R64 (((List.length a : Nat) : Int) - ((List.length b : Nat) : Int))] ?_ ?_)
  ·
   refine ⟨?_, trivial⟩
   ·
    refine R64.of ?_
    omega
  exact AW.ret (AW.rI (((List.length a : Nat) : Int) - ((List.length b : Nat) : Int)) e45)

def randomRow_l0 (width : Int) : Nat → Nat → (List Int) → Int → (List Val) → (List Int) × Int × (List Val)
 | 0, i, r0, r1, out => (r0, r1, out)
 | k + 1, i, r0, r1, out => (bif (decide (((i : Nat) : Int) < width)) then (randomRow_l0 width k (i + 1) (Rdr.b ((randomValue (Rdr.mk r0 r1)).2)) (Rdr.p ((randomValue (Rdr.mk r0 r1)).2)) (out ++ ([((randomValue (Rdr.mk r0 r1)).1)] : List Val))) else (r0, r1, out))

def randomRow (r : Rdr) (width : Int) : (List Val) × Rdr := (Go.Am.andThen (randomRow_l0 width (Int.toNat (width - ((0 : Nat) : Int)) + 1) 0 (Rdr.b r) (Rdr.p r) ([] : List Val)) (fun z => (fun (r0 : List Int) (r1 : Int) (out : List Val) => (out, (Rdr.mk r0 r1))) z.1 z.2.1 z.2.2))

def randomRow_sp : FnSpec := mkSpecB [.box 2, .val (.int .i64)] [.own (.named 0)] (fun (r : Rdr) (width : Int) => (0 ≤ r.p ∧ r.p ≤ 900000100000) ∧ width ≤ 100) (fun (r : Rdr) (width : Int) => [⟨(.slice (.named 0)), ((randomRow r width).1)⟩]) (fun (r : Rdr) (width : Int) => [⟨(.named 2), ((randomRow r width).2)⟩])

theorem randomRow_ok : FnOK Try.prog 54 randomRow_sp := by
 have hC : CtxOK Try.prog (mkCtx tyL [(64, randomValue_sp)]) := CtxOK.cons randomValue_ok (CtxOK.nil tyOK)
 refine FnOK.of_body Try.func54 (by kernel_rfl) rfl (C := (mkCtx tyL [(64, randomValue_sp)])) hC.ty (by kernel_rfl) ?_
 intro (r : Rdr) (width : Int) hwf hpre E
 have hpre : (0 ≤ r.p ∧ r.p ≤ 900000100000) ∧ width ≤ 100 := hpre
 have hw_r : Wf ⟨(.named 2), (r : Rdr)⟩ := hwf _ (List.Mem.head _)
 obtain ⟨hl_r_b, hr_r_p⟩ := Rdr.wfl hw_r
 have hw_width : Wf ⟨(.int .i64), (width : Int)⟩ := hwf _ (List.Mem.tail _ (List.Mem.head _))
 have hr_width : -9223372036854775808 ≤ width ∧ width ≤ 9223372036854775807 := hw_width.int_inv
 have e0 : randomRow r width = randomRow r width := rfl
 refine AW.seq (AW.r1 hC [0, 1] [0] ⟨[(0, .ref 0 0 0), (1, sI width)], [(0, .box 0 [sD9 (Rdr.b r), sI (Rdr.p r)])]⟩ ?_)
 refine AW.seq (AW.r1 hC [0, 1, 5] [0, 28] ⟨[(0, .ref 0 0 0), (1, sI width), (5, .arr 28 1)], [(0, .box 0 [sD9 (Rdr.b r), sI (Rdr.p r)]), (28, .arr 1 (.named 0) (([] : List Val) : List Val))]⟩ ?_)
 refine AW.seq (AW.seq (AW.r1 hC [0, 1, 5, 6] [0, 28] ⟨[(0, .ref 0 0 0), (1, sI width), (5, .arr 28 1), (6, sI 0)], [(0, .box 0 [sD9 (Rdr.b r), sI (Rdr.p r)]), (28, .arr 1 (.named 0) (([] : List Val) : List Val))]⟩ ?_))
 refine AW.cutQ (α := (List Int) × Int × (List Val)) (fun x => ⟨[(5, .arr 28 1)], [(0, .box 0 [sD9 x.1, sI x.2.1]), (28, .arr 1 (.named 0) (x.2.2 : List Val))]⟩) (fun x => ((0 ≤ x.2.1 ∧ x.2.1 ≤ r.p + 200) ∧ List.length x.2.2 ≤ 100) ∧ (randomRow_l0 width (Int.toNat (width - ((0 : Nat) : Int)) + 1) 0 (Rdr.b r) (Rdr.p r) ([] : List Val)) = x) ?_ ?_
 ·
  skip
  refine AW.block (AW.loop (α := Nat × (List Int) × Int × (List Val)) (fun x => ⟨[(0, .ref 0 0 0), (1, sI width), (5, .arr 28 1), (6, sI ((x.1 : Nat) : Int))], [(0, .box 0 [sD9 x.2.1, sI x.2.2.1]), (28, .arr 1 (.named 0) (x.2.2.2 : List Val))]⟩) (fun x => ((0 ≤ x.2.2.1 ∧ x.2.2.1 ≤ r.p + 2 * (x.1 : Int)) ∧ (List.length x.2.2.2 = x.1 ∧ x.1 ≤ 100)) ∧ ∃ k, Int.toNat (width - ((x.1 : Nat) : Int)) < k ∧ (randomRow_l0 width (Int.toNat (width - ((0 : Nat) : Int)) + 1) 0 (Rdr.b r) (Rdr.p r) ([] : List Val)) = randomRow_l0 width k x.1 x.2.1 x.2.2.1 x.2.2.2) (fun x => Int.toNat (width - ((x.1 : Nat) : Int))) (0, (Rdr.b r), (Rdr.p r), ([] : List Val)) (by kernel_rfl) ⟨?_, _, Nat.lt_succ_self _, rfl⟩ ?_)
  ·
   show (0 ≤ (Rdr.p r) ∧ (Rdr.p r) ≤ r.p + 2 * (0 : Int)) ∧ (List.length ([] : List Val) = 0 ∧ 0 ≤ 100)
   exact ⟨by omega, rfl, by omega⟩
  ·
   intro x hR
   obtain ⟨i, r0, r1, out⟩ := x
   obtain ⟨hI0, k15, hk13, e14⟩ := hR
   replace hI0 : (0 ≤ r1 ∧ r1 ≤ r.p + 2 * (i : Int)) ∧ (List.length out = i ∧ i ≤ 100) := hI0
   replace hk13 : Int.toNat (width - ((i : Nat) : Int)) < k15 := hk13
   obtain ⟨k15q, rfl⟩ : ∃ k, k15 = k + 1 := ⟨k15 - 1, by omega⟩
   have hp := randomValue_p (Rdr.mk r0 r1)
   simp only at hp
   refine AW.seq (AW.seq (AW.r1 hC [0, 1, 5, 6, 10] [0, 28] ⟨[(0, .ref 0 0 0), (1, sI width), (5, .arr 28 1), (6, sI ((i : Nat) : Int)), (10, sB (decide (((i : Nat) : Int) < width)))], [(0, .box 0 [sD9 r0, sI r1]), (28, .arr 1 (.named 0) (out : List Val))]⟩ ?_))
   refine AW.cd (decide (((i : Nat) : Int) < width)) ?_ ?_
   ·
    intro h16
    have h16q := (of_decide_eq_true h16)
    have e17 := e14.trans (Go.Am.bif_t h16)
    refine AW.kp [0, 1, 5, 6] [0, 28] ⟨[(0, .ref 0 0 0), (1, sI width), (5, .arr 28 1), (6, sI ((i : Nat) : Int))], [(0, .box 0 [sD9 r0, sI r1]), (28, .arr 1 (.named 0) (out : List Val))]⟩ ?_
    refine AW.skip (AW.seq (AW.block (AW.r0 hC [0, 1, 5, 6] [0, 28] ⟨[(0, .ref 0 0 0), (1, sI width), (5, .arr 28 1), (6, sI ((i : Nat) : Int))], [(0, .box 0 [sD9 (Rdr.b ((randomValue (Rdr.mk r0 r1)).2)), sI (Rdr.p ((randomValue (Rdr.mk r0 r1)).2))]), (28, .arr 1 (.named 0) ((out ++ ([((randomValue (Rdr.mk r0 r1)).1)] : List Val)) : List Val))]⟩ [(0 ≤ (Rdr.mk r0 r1).p ∧ (Rdr.mk r0 r1).p ≤ 1000000000000), (((List.length out : Nat) : Int) + ((List.length ([((randomValue (Rdr.mk r0 r1)).1)] : List Val) : Nat) : Int) ≤ 4294967296)] ?_ ?_)))
    ·
     refine ⟨?_, ?_, trivial⟩
     ·
      dsimp only; omega
     ·
      simp only [lens] at *; omega
    refine AW.r0 hC [0, 1, 5, 6] [0, 28] ⟨[(0, .ref 0 0 0), (1, sI width), (5, .arr 28 1), (6, sI ((i + 1 : Nat) : Int))], [(0, .box 0 [sD9 (Rdr.b ((randomValue (Rdr.mk r0 r1)).2)), sI (Rdr.p ((randomValue (Rdr.mk r0 r1)).2))]), (28, .arr 1 (.named 0) ((out ++ ([((randomValue (Rdr.mk r0 r1)).1)] : List Val)) : List Val))]⟩ [R64 ((i + 1 : Nat) : Int)] ?_ ?_
    ·
     refine ⟨?_, trivial⟩
     ·
      refine R64.of ?_
      omega
    refine AW.back (x := (i, r0, r1, out)) (i + 1, (Rdr.b ((randomValue (Rdr.mk r0 r1)).2)), (Rdr.p ((randomValue (Rdr.mk r0 r1)).2)), (out ++ ([((randomValue (Rdr.mk r0 r1)).1)] : List Val))) (by kernel_rfl) ⟨?_, k15q, ?_, e17⟩ ?_
    ·
     show (0 ≤ (Rdr.p ((randomValue (Rdr.mk r0 r1)).2)) ∧ (Rdr.p ((randomValue (Rdr.mk r0 r1)).2)) ≤ r.p + 2 * ((i + 1) : Int)) ∧ (List.length (out ++ ([((randomValue (Rdr.mk r0 r1)).1)] : List Val)) = (i + 1) ∧ (i + 1) ≤ 100)
     simp only [List.length_append, List.length_cons, List.length_nil]
     omega
    ·
     show Int.toNat (width - (((i + 1) : Nat) : Int)) < k15q
     omega
    ·
     show Int.toNat (width - (((i + 1) : Nat) : Int)) < Int.toNat (width - ((i : Nat) : Int))
     omega
   ·
    intro h18
    have h18q := (of_decide_eq_false h18)
    have e19 := e14.trans (Go.Am.bif_f h18)
    refine AW.kp [5] [0, 28] ⟨[(5, .arr 28 1)], [(0, .box 0 [sD9 r0, sI r1]), (28, .arr 1 (.named 0) (out : List Val))]⟩ ?_
    refine AW.exit ?_
    refine AW.meet (r0, r1, out) (by kernel_rfl) ⟨?_, e19⟩
    show (0 ≤ r1 ∧ r1 ≤ r.p + 200) ∧ List.length out ≤ 100
    omega
 ·
  intro x hR
  obtain ⟨r0, r1, out⟩ := x
  obtain ⟨hJ0, e20⟩ := hR
  replace hJ0 : (0 ≤ r1 ∧ r1 ≤ r.p + 200) ∧ List.length out ≤ 100 := hJ0
  have e21 := e0.trans (Go.Am.then_eq e20)
  refine AW.seq (AW.r1 hC [4] [0, 28] ⟨[(4, .arr 28 1)], [(0, .box 0 [sD9 r0, sI r1]), (28, .arr 1 (.named 0) (out : List Val))]⟩ ?_)
  exact AW.ret (AW.retE (β := (List Val) × Rdr) (fun v => [⟨(.slice (.named 0)), v.1⟩]) (fun v => [⟨(.named 2), v.2⟩]) (v := (out, (Rdr.mk r0 r1))) e21 (by kernel_rfl) rfl rfl)

theorem randomRow_l0_p (width : Int) (hw : width ≤ 100) : ∀ (k i : Nat) (r0 : List Int) (p : Int) (out : List Val), p ≤ (randomRow_l0 width k i r0 p out).2.1 ∧ (randomRow_l0 width k i r0 p out).2.1 ≤ p + 2 * ((100 - i : Nat) : Int) ∧
  (randomRow_l0 width k i r0 p out).2.2.length ≤ out.length + (100 - i) := by
 intro k
 induction k with
 | zero => intro i r0 p out; exact ⟨Int.le_refl _, by show p ≤ p + _; omega, Nat.le_add_right _ _⟩
 | succ k ih =>
  intro i r0 p out
  unfold randomRow_l0
  by_cases h : ((i : Nat) : Int) < width
  ·
   rw [decide_eq_true h, cond_true]
   have hp := randomValue_p (Rdr.mk r0 p)
   simp only at hp
   have := ih (i + 1) (Rdr.b ((randomValue (Rdr.mk r0 p)).2)) (Rdr.p ((randomValue (Rdr.mk r0 p)).2)) (out ++ ([((randomValue (Rdr.mk r0 p)).1)] : List Val))
   simp only [List.length_append, List.length_cons, List.length_nil] at this
   omega
  ·
   rw [decide_eq_false h, cond_false]
   simp only
   omega

theorem randomRow_p (r : Rdr) {width : Int} (hw : width ≤ 100) : (r.p ≤ (randomRow r width).2.p ∧ (randomRow r width).2.p ≤ r.p + 200) ∧ (randomRow r width).1.length ≤ 100 := by
 have a := randomRow_l0_p width hw (Int.toNat (width - ((0 : Nat) : Int)) + 1) 0 (Rdr.b r) (Rdr.p r) []
 unfold randomRow
 dsimp only [Go.Am.andThen]
 simp only [List.length_nil] at a
 omega

theorem randomRow_l0_len (width : Int) : ∀ (k i : Nat) (r0 : List Int) (p : Int) (out : List Val), Int.toNat (width - (i : Int)) < k → (randomRow_l0 width k i r0 p out).2.2.length = out.length + Int.toNat (width - (i : Int)) := by
 intro k
 induction k with
 | zero => intro i r0 p out h; omega
 | succ k ih =>
  intro i r0 p out hk
  unfold randomRow_l0
  by_cases h : ((i : Nat) : Int) < width
  ·
   rw [decide_eq_true h, cond_true, ih (i + 1) _ _ _ (by omega)]
   simp only [List.length_append, List.length_cons, List.length_nil]
   omega
  ·
   rw [decide_eq_false h, cond_false]
   simp only
   omega

theorem randomRow_len (r : Rdr) (width : Int) : (randomRow r width).1.length = Int.toNat width := by
 have a := randomRow_l0_len width (Int.toNat (width - ((0 : Nat) : Int)) + 1) 0 (Rdr.b r) (Rdr.p r) [] (Nat.lt_succ_self _)
 unfold randomRow
 dsimp only [Go.Am.andThen]
 simp only [List.length_nil] at a
 omega

def copyRow (row : List Val) : (List Val) := (([] : List Val) ++ row)

def copyRow_sp : FnSpec := mkSpec [.val (.slice (.named 0))] [.val (.slice (.named 0))] (fun (row : List Val) => (List.length row : Int) ≤ 1048576) (fun (row : List Val) => [⟨(.slice (.named 0)), (copyRow row)⟩])

theorem copyRow_ok : FnOK Try.prog 44 copyRow_sp := by
 have hC : CtxOK Try.prog (mkCtx tyL []) := CtxOK.nil tyOK
 refine FnOK.of_body Try.func44 (by kernel_rfl) rfl (C := (mkCtx tyL [])) hC.ty (by kernel_rfl) ?_
 intro (row : List Val) hwf hpre E
 have hpre : (List.length row : Int) ≤ 1048576 := hpre
 have hw_row : Wf ⟨(.slice (.named 0)), (row : List Val)⟩ := hwf _ (List.Mem.head _)
 have hl_row : ((List.length row : Nat) : Int) ≤ 9223372036854775807 := hw_row.len
 have e0 : copyRow row = copyRow row := rfl
 refine AW.seq (AW.r1 hC [0] [] ⟨[(0, sD10 row)], []⟩ ?_)
 refine AW.seq (AW.r0 hC [2] [12] ⟨[(2, .arr 12 1)], [(12, .arr 1 (.named 0) ((([] : List Val) ++ row) : List Val))]⟩ [(0 + ((List.length row : Nat) : Int) ≤ 4294967296)] ?_ ?_)
 ·
  refine ⟨?_, trivial⟩
  ·
   omega
 exact AW.ret (AW.retE (β := (List Val)) (fun v => [⟨(.slice (.named 0)), v⟩]) (fun v => []) (v := (([] : List Val) ++ row)) e0 (by kernel_rfl) rfl rfl)

def insertRow_l0 (rows : List (List Val)) (row : List Val) : Nat → Int → Int → Int
 | 0, low1, high1 => low1
 | k + 1, low1, high1 => (bif (decide (low1 < high1)) then (bif (decide ((compareRows (List.getD rows (Int.toNat ((low1 + high1) / 2)) []) row) ≤ 0)) then (insertRow_l0 rows row k (((low1 + high1) / 2) + 1) high1) else (insertRow_l0 rows row k low1 ((low1 + high1) / 2))) else low1)

def insertRow (rows : List (List Val)) (row : List Val) : (List (List Val)) := (Go.Am.andThen (insertRow_l0 rows row (Int.toNat (((List.length rows : Nat) : Int) - 0) + 1) 0 ((List.length rows : Nat) : Int)) (fun z => (fun (low1 : Int) => (((([] : List (List Val)) ++ (List.take (Int.toNat low1) rows)) ++ ([(copyRow row)] : List (List Val))) ++ (List.drop (Int.toNat low1) rows))) z))

def insertRow_sp : FnSpec := mkSpec [.val (.slice (.slice (.named 0))), .val (.slice (.named 0))] [.own (.slice (.named 0))] (fun (rows : List (List Val)) (row : List Val) => (List.length rows : Int) ≤ 1048576 ∧ (List.length row : Int) ≤ 1048576) (fun (rows : List (List Val)) (row : List Val) => [⟨(.slice (.slice (.named 0))), (insertRow rows row)⟩])

theorem insertRow_ok : FnOK Try.prog 65 insertRow_sp := by
 have hC : CtxOK Try.prog (mkCtx tyL [(44, copyRow_sp), (70, compareRows_sp)]) := CtxOK.cons copyRow_ok (CtxOK.cons compareRows_ok (CtxOK.nil tyOK))
 refine FnOK.of_body Try.func65 (by kernel_rfl) rfl (C := (mkCtx tyL [(44, copyRow_sp), (70, compareRows_sp)])) hC.ty (by kernel_rfl) ?_
 intro (rows : List (List Val)) (row : List Val) hwf hpre E
 have hpre : (List.length rows : Int) ≤ 1048576 ∧ (List.length row : Int) ≤ 1048576 := hpre
 have hw_rows : Wf ⟨(.slice (.slice (.named 0))), (rows : List (List Val))⟩ := hwf _ (List.Mem.head _)
 have hl_rows : ((List.length rows : Nat) : Int) ≤ 9223372036854775807 := hw_rows.len
 have hw_row : Wf ⟨(.slice (.named 0)), (row : List Val)⟩ := hwf _ (List.Mem.tail _ (List.Mem.head _))
 have hl_row : ((List.length row : Nat) : Int) ≤ 9223372036854775807 := hw_row.len
 have e0 : insertRow rows row = insertRow rows row := rfl
 refine AW.seq (AW.r1 hC [0, 1] [] ⟨[(0, sD12 rows), (1, sD10 row)], []⟩ ?_)
 refine AW.seq (AW.r1 hC [0, 1, 5] [] ⟨[(0, sD12 rows), (1, sD10 row), (5, sI 0)], []⟩ ?_)
 refine AW.seq (AW.r1 hC [0, 1, 5, 6] [] ⟨[(0, sD12 rows), (1, sD10 row), (5, sI 0), (6, sI ((List.length rows : Nat) : Int))], []⟩ ?_)
 refine AW.seq (AW.cutQ (α := Int) (fun x => ⟨[(0, sD12 rows), (1, sD10 row), (5, sI x)], []⟩) (fun x => (0 ≤ x ∧ x ≤ (List.length rows : Int)) ∧ (insertRow_l0 rows row (Int.toNat (((List.length rows : Nat) : Int) - 0) + 1) 0 ((List.length rows : Nat) : Int)) = x) ?_ ?_)
 ·
  skip
  refine AW.block (AW.loop (α := Int × Int) (fun x => ⟨[(0, sD12 rows), (1, sD10 row), (5, sI x.1), (6, sI x.2)], []⟩) (fun x => ((0 ≤ x.1 ∧ x.1 ≤ x.2) ∧ x.2 ≤ (List.length rows : Int)) ∧ ∃ k, Int.toNat (x.2 - x.1) < k ∧ (insertRow_l0 rows row (Int.toNat (((List.length rows : Nat) : Int) - 0) + 1) 0 ((List.length rows : Nat) : Int)) = insertRow_l0 rows row k x.1 x.2) (fun x => Int.toNat (x.2 - x.1)) (0, ((List.length rows : Nat) : Int)) (by kernel_rfl) ⟨?_, _, Nat.lt_succ_self _, rfl⟩ ?_)
  ·
   show (0 ≤ 0 ∧ 0 ≤ ((List.length rows : Nat) : Int)) ∧ ((List.length rows : Nat) : Int) ≤ (List.length rows : Int)
   omega
  ·
   intro x hR
   obtain ⟨low1, high1⟩ := x
   obtain ⟨hI0, k35, hk33, e34⟩ := hR
   replace hI0 : (0 ≤ low1 ∧ low1 ≤ high1) ∧ high1 ≤ (List.length rows : Int) := hI0
   replace hk33 : Int.toNat (high1 - low1) < k35 := hk33
   obtain ⟨k35q, rfl⟩ : ∃ k, k35 = k + 1 := ⟨k35 - 1, by omega⟩
   refine AW.seq (AW.seq (AW.r1 hC [0, 1, 5, 6, 13] [] ⟨[(0, sD12 rows), (1, sD10 row), (5, sI low1), (6, sI high1), (13, sB (decide (low1 < high1)))], []⟩ ?_))
   refine AW.cd (decide (low1 < high1)) ?_ ?_
   ·
    intro h36
    have h36q := (of_decide_eq_true h36)
    have e37 := e34.trans (Go.Am.bif_t h36)
    refine AW.kp [0, 1, 5, 6] [] ⟨[(0, sD12 rows), (1, sD10 row), (5, sI low1), (6, sI high1)], []⟩ ?_
    refine AW.skip (AW.block (AW.seq (AW.r0 hC [0, 1, 5, 6, 7] [] ⟨[(0, sD12 rows), (1, sD10 row), (5, sI low1), (6, sI high1), (7, sI ((low1 + high1) / 2))], []⟩ [R64 (low1 + high1), (0 ≤ (low1 + high1) ∧ 0 < (2 : Int))] ?_ ?_)))
    ·
     refine ⟨?_, ?_, trivial⟩
     ·
      refine R64.of ?_
      omega
     ·
      omega
    refine AW.seq (AW.r0 hC [0, 1, 5, 6, 7, 24] [] ⟨[(0, sD12 rows), (1, sD10 row), (5, sI low1), (6, sI high1), (7, sI ((low1 + high1) / 2)), (24, sB (decide ((compareRows (List.getD rows (Int.toNat ((low1 + high1) / 2)) []) row) ≤ 0)))], []⟩ [IX ((low1 + high1) / 2) ((List.length rows : Nat) : Int), (True)] ?_ ?_)
    ·
     refine ⟨?_, ?_, trivial⟩
     ·
      refine IX.of ?_
      omega
     ·
      trivial
    refine AW.cd (decide ((compareRows (List.getD rows (Int.toNat ((low1 + high1) / 2)) []) row) ≤ 0)) ?_ ?_
    ·
     intro h38
     have h38q := (of_decide_eq_true h38)
     have e39 := e37.trans (Go.Am.bif_t h38)
     refine AW.r0 hC [0, 1, 5, 6] [] ⟨[(0, sD12 rows), (1, sD10 row), (5, sI (((low1 + high1) / 2) + 1)), (6, sI high1)], []⟩ [R64 (((low1 + high1) / 2) + 1)] ?_ ?_
     ·
      refine ⟨?_, trivial⟩
      ·
       refine R64.of ?_
       omega
     refine AW.back (x := (low1, high1)) ((((low1 + high1) / 2) + 1), high1) (by kernel_rfl) ⟨?_, k35q, ?_, e39⟩ ?_
     ·
      show (0 ≤ (((low1 + high1) / 2) + 1) ∧ (((low1 + high1) / 2) + 1) ≤ high1) ∧ high1 ≤ (List.length rows : Int)
      omega
     ·
      show Int.toNat (high1 - (((low1 + high1) / 2) + 1)) < k35q
      omega
     ·
      show Int.toNat (high1 - (((low1 + high1) / 2) + 1)) < Int.toNat (high1 - low1)
      omega
    ·
     intro h40
     have h40q := (of_decide_eq_false h40)
     have e41 := e37.trans (Go.Am.bif_f h40)
     refine AW.r1 hC [0, 1, 5, 6] [] ⟨[(0, sD12 rows), (1, sD10 row), (5, sI low1), (6, sI ((low1 + high1) / 2))], []⟩ ?_
     refine AW.back (x := (low1, high1)) (low1, ((low1 + high1) / 2)) (by kernel_rfl) ⟨?_, k35q, ?_, e41⟩ ?_
     ·
      show (0 ≤ low1 ∧ low1 ≤ ((low1 + high1) / 2)) ∧ ((low1 + high1) / 2) ≤ (List.length rows : Int)
      omega
     ·
      show Int.toNat (((low1 + high1) / 2) - low1) < k35q
      omega
     ·
      show Int.toNat (((low1 + high1) / 2) - low1) < Int.toNat (high1 - low1)
      omega
   ·
    intro h42
    have h42q := (of_decide_eq_false h42)
    have e43 := e34.trans (Go.Am.bif_f h42)
    refine AW.kp [0, 1, 5] [] ⟨[(0, sD12 rows), (1, sD10 row), (5, sI low1)], []⟩ ?_
    refine AW.exit ?_
    refine AW.meet low1 (by kernel_rfl) ⟨?_, e43⟩
    show 0 ≤ low1 ∧ low1 ≤ (List.length rows : Int)
    omega
 ·
  intro low1 hR
  obtain ⟨hJ0, e44⟩ := hR
  replace hJ0 : 0 ≤ low1 ∧ low1 ≤ (List.length rows : Int) := hJ0
  have e45 := e0.trans (Go.Am.then_eq e44)
  refine AW.seq (AW.r0 hC [0, 1, 5, 8] [112] ⟨[(0, sD12 rows), (1, sD10 row), (5, sI low1), (8, .arr 112 1)], [(112, .arr 1 (.slice (.named 0)) ((([] : List (List Val)) ++ (List.take (Int.toNat low1) rows)) : List (List Val)))]⟩ [(0 ≤ low1 ∧ low1 ≤ ((List.length rows : Nat) : Int)), (0 + ((List.length (List.take (Int.toNat low1) rows) : Nat) : Int) ≤ 4294967296)] ?_ ?_)
  ·
   refine ⟨?_, ?_, trivial⟩
   ·
    omega
   ·
    simp only [lens] at *; omega
  refine AW.seq (AW.r0 hC [0, 5, 8] [112] ⟨[(0, sD12 rows), (5, sI low1), (8, .arr 112 1)], [(112, .arr 1 (.slice (.named 0)) (((([] : List (List Val)) ++ (List.take (Int.toNat low1) rows)) ++ ([(copyRow row)] : List (List Val))) : List (List Val)))]⟩ [((List.length row : Int) ≤ 1048576), (((List.length (([] : List (List Val)) ++ (List.take (Int.toNat low1) rows)) : Nat) : Int) + ((List.length ([(copyRow row)] : List (List Val)) : Nat) : Int) ≤ 4294967296)] ?_ ?_)
  ·
   refine ⟨?_, ?_, trivial⟩
   ·
    omega
   ·
    simp only [lens] at *; omega
  refine AW.seq (AW.r0 hC [4] [112] ⟨[(4, .arr 112 1)], [(112, .arr 1 (.slice (.named 0)) ((((([] : List (List Val)) ++ (List.take (Int.toNat low1) rows)) ++ ([(copyRow row)] : List (List Val))) ++ (List.drop (Int.toNat low1) rows)) : List (List Val)))]⟩ [(0 ≤ low1 ∧ low1 ≤ ((List.length rows : Nat) : Int)), (((List.length ((([] : List (List Val)) ++ (List.take (Int.toNat low1) rows)) ++ ([(copyRow row)] : List (List Val))) : Nat) : Int) + ((List.length (List.drop (Int.toNat low1) rows) : Nat) : Int) ≤ 4294967296)] ?_ ?_)
  ·
   refine ⟨?_, ?_, trivial⟩
   ·
    omega
   ·
    simp only [lens] at *; omega
  exact AW.ret (AW.retE (β := (List (List Val))) (fun v => [⟨(.slice (.slice (.named 0))), v⟩]) (fun v => []) (v := (((([] : List (List Val)) ++ (List.take (Int.toNat low1) rows)) ++ ([(copyRow row)] : List (List Val))) ++ (List.drop (Int.toNat low1) rows))) e45 (by kernel_rfl) rfl rfl)

theorem insertRow_len (rows : List (List Val)) (row : List Val) : (insertRow rows row).length = rows.length + 1 := by
 unfold insertRow
 dsimp only [Go.Am.andThen]
 simp only [List.length_append, List.nil_append, List.length_cons, List.length_nil, List.length_take, List.length_drop]
 omega

theorem copyRow_eq (r : List Val) : copyRow r = r := rfl

end
end Go.Proofs.Ytbgbekpbbcahpaa
