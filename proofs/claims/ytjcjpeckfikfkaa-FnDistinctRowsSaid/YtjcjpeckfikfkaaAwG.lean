/-
  A part of the proof of this claim (AwG): what functions of the program compute, and plain facts of that. No conditions.
-/
import Derived.Test.YtjcjpeckfikfkaaAwF
set_option linter.all false
namespace Go.Proofs.Ytjcjpeckfikfkaa
open Go Go.Am
noncomputable section

def DrawTableOf_l0 (code : List Int) : Nat → Int → (List Int) → Int → (List (List Val)) → (List Int) × Int × (List (List Val))
 | 0, n, r0, r1, rows => (r0, r1, rows)
 | k + 1, n, r0, r1, rows => (bif (decide (0 < n)) then (DrawTableOf_l0 code k (n - 1) (Rdr.b ((randomRow (Rdr.mk r0 r1) (1 + (pick (Rdr.b (newReader code)) (Rdr.p (newReader code)) 3))).2)) (Rdr.p ((randomRow (Rdr.mk r0 r1) (1 + (pick (Rdr.b (newReader code)) (Rdr.p (newReader code)) 3))).2)) (rows ++ ([((randomRow (Rdr.mk r0 r1) (1 + (pick (Rdr.b (newReader code)) (Rdr.p (newReader code)) 3))).1)] : List (List Val)))) else (r0, r1, rows))

def DrawTableOf (code : List Int) : Int × (List (List Val)) := (Go.Am.andThen (DrawTableOf_l0 code (Int.toNat (pick (Rdr.b (newReader code)) ((Rdr.p (newReader code)) + 1) 8) + 1) (pick (Rdr.b (newReader code)) ((Rdr.p (newReader code)) + 1) 8) (Rdr.b (newReader code)) (((Rdr.p (newReader code)) + 1) + 1) ([] : List (List Val))) (fun z => (fun (r0 : List Int) (r1 : Int) (rows : List (List Val)) => (bif (decide (0 < ((List.length rows : Nat) : Int))) then (bif (bif (decide (0 < ((List.length rows : Nat) : Int))) then ((pick r0 r1 8) == 0) else false) then (bif ((pick (Rdr.b ((anyRow (Rdr.mk r0 ((r1 + 1) + 1)) (1 + (pick (Rdr.b (newReader code)) (Rdr.p (newReader code)) 3))).2)) (Rdr.p ((anyRow (Rdr.mk r0 ((r1 + 1) + 1)) (1 + (pick (Rdr.b (newReader code)) (Rdr.p (newReader code)) 3))).2)) 16) == 0) then ((one (Rdr.b ((anyRow (Rdr.mk r0 ((r1 + 1) + 1)) (1 + (pick (Rdr.b (newReader code)) (Rdr.p (newReader code)) 3))).2)) ((Rdr.p ((anyRow (Rdr.mk r0 ((r1 + 1) + 1)) (1 + (pick (Rdr.b (newReader code)) (Rdr.p (newReader code)) 3))).2)) + 1) ([0, 7, 2] : List Int)), (List.set rows (Int.toNat (pick r0 (r1 + 1) ((List.length rows : Nat) : Int))) ((anyRow (Rdr.mk r0 ((r1 + 1) + 1)) (1 + (pick (Rdr.b (newReader code)) (Rdr.p (newReader code)) 3))).1))) else ((1 + (pick (Rdr.b (newReader code)) (Rdr.p (newReader code)) 3)), (List.set rows (Int.toNat (pick r0 (r1 + 1) ((List.length rows : Nat) : Int))) ((anyRow (Rdr.mk r0 ((r1 + 1) + 1)) (1 + (pick (Rdr.b (newReader code)) (Rdr.p (newReader code)) 3))).1)))) else (bif ((pick r0 (r1 + 1) 16) == 0) then ((one r0 ((r1 + 1) + 1) ([0, 7, 2] : List Int)), rows) else ((1 + (pick (Rdr.b (newReader code)) (Rdr.p (newReader code)) 3)), rows))) else (bif ((pick r0 r1 16) == 0) then ((one r0 (r1 + 1) ([0, 7, 2] : List Int)), rows) else ((1 + (pick (Rdr.b (newReader code)) (Rdr.p (newReader code)) 3)), rows)))) z.1 z.2.1 z.2.2))

def DrawTableOf_sp : FnSpec := mkSpec [.val (.slice (.int .u8))] [.val (.int .i64), .own (.slice (.named 1))] (fun (code : List Int) => True) (fun (code : List Int) => [⟨(.int .i64), ((DrawTableOf code).1)⟩, ⟨(.slice (.slice (.named 1))), ((DrawTableOf code).2)⟩])

theorem DrawTableOf_ok : FnOK Try.prog 15 DrawTableOf_sp := by
 have hC : CtxOK Try.prog (mkCtx tyL [(55, newReader_sp), (56, pickS), (57, randomRow_sp), (58, anyRow_sp), (59, oneS)]) := CtxOK.cons newReader_ok (CtxOK.cons pickS_ok (CtxOK.cons randomRow_ok (CtxOK.cons anyRow_ok (CtxOK.cons oneS_ok (CtxOK.nil tyOK)))))
 refine FnOK.of_body Try.func15 (by kernel_rfl) rfl (C := (mkCtx tyL [(55, newReader_sp), (56, pickS), (57, randomRow_sp), (58, anyRow_sp), (59, oneS)])) hC.ty (by kernel_rfl) ?_
 intro (code : List Int) hwf hpre E
 have hpre : True := hpre
 have hw_code : Wf ⟨(.slice (.int .u8)), (code : List Int)⟩ := hwf _ (List.Mem.head _)
 have hl_code : ((List.length code : Nat) : Int) ≤ 9223372036854775807 := hw_code.len
 have h0 := newReader_p code
 have hw := pick_ok (n := 3) (newReader code).b (newReader code).p (by decide)
 have hp := pick_ok (n := 8) (newReader code).b ((newReader code).p + 1) (by decide)
 have e0 : DrawTableOf code = DrawTableOf code := rfl
 refine AW.seq (AW.r1 hC [0] [] ⟨[(0, .data (.slice (.int .u8)) (code : List Int))], []⟩ ?_)
 refine AW.seq (AW.r0 hC [4] [36] ⟨[(4, .ref 36 1 0)], [(36, .box 1 [.data (.slice (.int .u8)) ((Rdr.b (newReader code)) : List Int), .int .i64 (Rdr.p (newReader code))])]⟩ [(True)] ?_ ?_)
 ·
  refine ⟨?_, trivial⟩
  ·
   trivial
 refine AW.seq (AW.r0 hC [4, 5] [36] ⟨[(4, .ref 36 1 0), (5, .int .i64 (1 + (pick (Rdr.b (newReader code)) (Rdr.p (newReader code)) 3)))], [(36, .box 1 [.data (.slice (.int .u8)) ((Rdr.b (newReader code)) : List Int), .int .i64 ((Rdr.p (newReader code)) + 1)])]⟩ [(0 ≤ (newReader code).p ∧ (newReader code).p ≤ 1099511627776), (-9223372036854775808 ≤ (1 + (pick (Rdr.b (newReader code)) (Rdr.p (newReader code)) 3)) ∧ (1 + (pick (Rdr.b (newReader code)) (Rdr.p (newReader code)) 3)) ≤ 9223372036854775807)] ?_ ?_)
 ·
  refine ⟨?_, ?_, trivial⟩
  ·
   omega
  ·
   omega
 refine AW.seq (AW.r1 hC [4, 5, 6] [36, 52] ⟨[(4, .ref 36 1 0), (5, .int .i64 (1 + (pick (Rdr.b (newReader code)) (Rdr.p (newReader code)) 3))), (6, .arr 52 1)], [(36, .box 1 [.data (.slice (.int .u8)) ((Rdr.b (newReader code)) : List Int), .int .i64 ((Rdr.p (newReader code)) + 1)]), (52, .arr 1 (.slice (.named 1)) (([] : List (List Val)) : List (List Val)))]⟩ ?_)
 refine AW.seq (AW.seq (AW.r0 hC [4, 5, 6, 7] [36, 52] ⟨[(4, .ref 36 1 0), (5, .int .i64 (1 + (pick (Rdr.b (newReader code)) (Rdr.p (newReader code)) 3))), (6, .arr 52 1), (7, .int .i64 (pick (Rdr.b (newReader code)) ((Rdr.p (newReader code)) + 1) 8))], [(36, .box 1 [.data (.slice (.int .u8)) ((Rdr.b (newReader code)) : List Int), .int .i64 (((Rdr.p (newReader code)) + 1) + 1)]), (52, .arr 1 (.slice (.named 1)) (([] : List (List Val)) : List (List Val)))]⟩ [(0 ≤ (Rdr.mk (Rdr.b (newReader code)) ((Rdr.p (newReader code)) + 1)).p ∧ (Rdr.mk (Rdr.b (newReader code)) ((Rdr.p (newReader code)) + 1)).p ≤ 1099511627776)] ?_ ?_))
 ·
  refine ⟨?_, trivial⟩
  ·
   dsimp only; omega
 refine AW.cutQ (α := (List Int) × Int × (List (List Val))) (fun x => ⟨[(4, .ref 36 1 0), (5, .int .i64 (1 + (pick (Rdr.b (newReader code)) (Rdr.p (newReader code)) 3))), (6, .arr 52 1)], [(36, .box 1 [.data (.slice (.int .u8)) (x.1 : List Int), .int .i64 x.2.1]), (52, .arr 1 (.slice (.named 1)) (x.2.2 : List (List Val)))]⟩) (fun x => ((List.length x.2.2 : Int) ≤ 7 ∧ (0 ≤ x.2.1 ∧ x.2.1 ≤ 3000)) ∧ (DrawTableOf_l0 code (Int.toNat (pick (Rdr.b (newReader code)) ((Rdr.p (newReader code)) + 1) 8) + 1) (pick (Rdr.b (newReader code)) ((Rdr.p (newReader code)) + 1) 8) (Rdr.b (newReader code)) (((Rdr.p (newReader code)) + 1) + 1) ([] : List (List Val))) = x) ?_ ?_
 ·
  skip
  refine AW.block (AW.loop (α := Int × (List Int) × Int × (List (List Val))) (fun x => ⟨[(4, .ref 36 1 0), (5, .int .i64 (1 + (pick (Rdr.b (newReader code)) (Rdr.p (newReader code)) 3))), (6, .arr 52 1), (7, .int .i64 x.1)], [(36, .box 1 [.data (.slice (.int .u8)) (x.2.1 : List Int), .int .i64 x.2.2.1]), (52, .arr 1 (.slice (.named 1)) (x.2.2.2 : List (List Val)))]⟩) (fun x => (((List.length x.2.2.2 : Int) + x.1 ≤ 7 ∧ 0 ≤ x.1) ∧ (0 ≤ x.2.2.1 ∧ x.2.2.1 + 300 * x.1 ≤ 3000)) ∧ ∃ k, Int.toNat x.1 < k ∧ (DrawTableOf_l0 code (Int.toNat (pick (Rdr.b (newReader code)) ((Rdr.p (newReader code)) + 1) 8) + 1) (pick (Rdr.b (newReader code)) ((Rdr.p (newReader code)) + 1) 8) (Rdr.b (newReader code)) (((Rdr.p (newReader code)) + 1) + 1) ([] : List (List Val))) = DrawTableOf_l0 code k x.1 x.2.1 x.2.2.1 x.2.2.2) (fun x => Int.toNat x.1) ((pick (Rdr.b (newReader code)) ((Rdr.p (newReader code)) + 1) 8), (Rdr.b (newReader code)), (((Rdr.p (newReader code)) + 1) + 1), ([] : List (List Val))) (by kernel_rfl) ⟨?_, _, Nat.lt_succ_self _, rfl⟩ ?_)
  ·
   show ((List.length ([] : List (List Val)) : Int) + (pick (Rdr.b (newReader code)) ((Rdr.p (newReader code)) + 1) 8) ≤ 7 ∧ 0 ≤ (pick (Rdr.b (newReader code)) ((Rdr.p (newReader code)) + 1) 8)) ∧ (0 ≤ (((Rdr.p (newReader code)) + 1) + 1) ∧ (((Rdr.p (newReader code)) + 1) + 1) + 300 * (pick (Rdr.b (newReader code)) ((Rdr.p (newReader code)) + 1) 8) ≤ 3000)
   simp only [List.length_nil]
   omega
  ·
   intro x hR
   obtain ⟨n, r0, r1, rows⟩ := x
   obtain ⟨hI0, k15, hk13, e14⟩ := hR
   replace hI0 : ((List.length rows : Int) + n ≤ 7 ∧ 0 ≤ n) ∧ (0 ≤ r1 ∧ r1 + 300 * n ≤ 3000) := hI0
   replace hk13 : Int.toNat n < k15 := hk13
   obtain ⟨k15q, rfl⟩ : ∃ k, k15 = k + 1 := ⟨k15 - 1, by omega⟩
   have hrr := randomRow_p (Rdr.mk r0 r1) (width := 1 + pick (newReader code).b (newReader code).p 3) (by omega)
   simp only at hrr
   refine AW.seq (AW.seq (AW.r1 hC [4, 5, 6, 7, 17] [36, 52] ⟨[(4, .ref 36 1 0), (5, .int .i64 (1 + (pick (Rdr.b (newReader code)) (Rdr.p (newReader code)) 3))), (6, .arr 52 1), (7, .int .i64 n), (17, .bool (decide (0 < n)))], [(36, .box 1 [.data (.slice (.int .u8)) (r0 : List Int), .int .i64 r1]), (52, .arr 1 (.slice (.named 1)) (rows : List (List Val)))]⟩ ?_))
   refine AW.cd (decide (0 < n)) ?_ ?_
   ·
    intro h16
    have h16q : 0 < n := (of_decide_eq_true h16)
    have e17 := e14.trans (Go.Am.bif_t h16)
    refine AW.kp [4, 5, 6, 7] [36, 52] ⟨[(4, .ref 36 1 0), (5, .int .i64 (1 + (pick (Rdr.b (newReader code)) (Rdr.p (newReader code)) 3))), (6, .arr 52 1), (7, .int .i64 n)], [(36, .box 1 [.data (.slice (.int .u8)) (r0 : List Int), .int .i64 r1]), (52, .arr 1 (.slice (.named 1)) (rows : List (List Val)))]⟩ ?_
    refine AW.skip (AW.seq (AW.block (AW.r0 hC [4, 5, 6, 7] [36, 52] ⟨[(4, .ref 36 1 0), (5, .int .i64 (1 + (pick (Rdr.b (newReader code)) (Rdr.p (newReader code)) 3))), (6, .arr 52 1), (7, .int .i64 n)], [(36, .box 1 [.data (.slice (.int .u8)) ((Rdr.b ((randomRow (Rdr.mk r0 r1) (1 + (pick (Rdr.b (newReader code)) (Rdr.p (newReader code)) 3))).2)) : List Int), .int .i64 (Rdr.p ((randomRow (Rdr.mk r0 r1) (1 + (pick (Rdr.b (newReader code)) (Rdr.p (newReader code)) 3))).2))]), (52, .arr 1 (.slice (.named 1)) ((rows ++ ([((randomRow (Rdr.mk r0 r1) (1 + (pick (Rdr.b (newReader code)) (Rdr.p (newReader code)) 3))).1)] : List (List Val))) : List (List Val)))]⟩ [((0 ≤ (Rdr.mk r0 r1).p ∧ (Rdr.mk r0 r1).p ≤ 1000000100000) ∧ (1 + (pick (Rdr.b (newReader code)) (Rdr.p (newReader code)) 3)) ≤ 100), (((List.length rows : Nat) : Int) + ((List.length ([((randomRow (Rdr.mk r0 r1) (1 + (pick (Rdr.b (newReader code)) (Rdr.p (newReader code)) 3))).1)] : List (List Val)) : Nat) : Int) ≤ 4294967296)] ?_ ?_)))
    ·
     refine ⟨?_, ?_, trivial⟩
     ·
      dsimp only; omega
     ·
      simp only [lens] at *; omega
    refine AW.r0 hC [4, 5, 6, 7] [36, 52] ⟨[(4, .ref 36 1 0), (5, .int .i64 (1 + (pick (Rdr.b (newReader code)) (Rdr.p (newReader code)) 3))), (6, .arr 52 1), (7, .int .i64 (n - 1))], [(36, .box 1 [.data (.slice (.int .u8)) ((Rdr.b ((randomRow (Rdr.mk r0 r1) (1 + (pick (Rdr.b (newReader code)) (Rdr.p (newReader code)) 3))).2)) : List Int), .int .i64 (Rdr.p ((randomRow (Rdr.mk r0 r1) (1 + (pick (Rdr.b (newReader code)) (Rdr.p (newReader code)) 3))).2))]), (52, .arr 1 (.slice (.named 1)) ((rows ++ ([((randomRow (Rdr.mk r0 r1) (1 + (pick (Rdr.b (newReader code)) (Rdr.p (newReader code)) 3))).1)] : List (List Val))) : List (List Val)))]⟩ [(-9223372036854775808 ≤ (n - 1) ∧ (n - 1) ≤ 9223372036854775807)] ?_ ?_
    ·
     refine ⟨?_, trivial⟩
     ·
      omega
    refine AW.back (x := (n, r0, r1, rows)) ((n - 1), (Rdr.b ((randomRow (Rdr.mk r0 r1) (1 + (pick (Rdr.b (newReader code)) (Rdr.p (newReader code)) 3))).2)), (Rdr.p ((randomRow (Rdr.mk r0 r1) (1 + (pick (Rdr.b (newReader code)) (Rdr.p (newReader code)) 3))).2)), (rows ++ ([((randomRow (Rdr.mk r0 r1) (1 + (pick (Rdr.b (newReader code)) (Rdr.p (newReader code)) 3))).1)] : List (List Val)))) (by kernel_rfl) ⟨?_, k15q, ?_, e17⟩ ?_
    ·
     show ((List.length (rows ++ ([((randomRow (Rdr.mk r0 r1) (1 + (pick (Rdr.b (newReader code)) (Rdr.p (newReader code)) 3))).1)] : List (List Val))) : Int) + (n - 1) ≤ 7 ∧ 0 ≤ (n - 1)) ∧ (0 ≤ (Rdr.p ((randomRow (Rdr.mk r0 r1) (1 + (pick (Rdr.b (newReader code)) (Rdr.p (newReader code)) 3))).2)) ∧ (Rdr.p ((randomRow (Rdr.mk r0 r1) (1 + (pick (Rdr.b (newReader code)) (Rdr.p (newReader code)) 3))).2)) + 300 * (n - 1) ≤ 3000)
     simp only [List.length_append, List.length_cons, List.length_nil]
     omega
    ·
     show Int.toNat (n - 1) < k15q
     omega
    ·
     show Int.toNat (n - 1) < Int.toNat n
     omega
   ·
    intro h18
    have h18q : ¬ (0 < n) := (of_decide_eq_false h18)
    have e19 := e14.trans (Go.Am.bif_f h18)
    refine AW.kp [4, 5, 6] [36, 52] ⟨[(4, .ref 36 1 0), (5, .int .i64 (1 + (pick (Rdr.b (newReader code)) (Rdr.p (newReader code)) 3))), (6, .arr 52 1)], [(36, .box 1 [.data (.slice (.int .u8)) (r0 : List Int), .int .i64 r1]), (52, .arr 1 (.slice (.named 1)) (rows : List (List Val)))]⟩ ?_
    refine AW.exit ?_
    refine AW.meet (r0, r1, rows) (by kernel_rfl) ⟨?_, e19⟩
    show (List.length rows : Int) ≤ 7 ∧ (0 ≤ r1 ∧ r1 ≤ 3000)
    omega
 ·
  intro x hR
  obtain ⟨r0, r1, rows⟩ := x
  obtain ⟨hJ0, e20⟩ := hR
  replace hJ0 : (List.length rows : Int) ≤ 7 ∧ (0 ≤ r1 ∧ r1 ≤ 3000) := hJ0
  have e21 := e0.trans (Go.Am.then_eq e20)
  refine AW.seq (AW.seq ?_)
  refine Go.Am.bsplit (b := (decide (0 < ((List.length rows : Nat) : Int)))) ?_ ?_
  ·
   intro h22
   have h22q : 0 < ((List.length rows : Nat) : Int) := (of_decide_eq_true h22)
   have e23 := e21.trans (Go.Am.bif_t h22)
   refine AW.reg hC  false [(29, true)] [4, 5, 6, 33] [36, 52]
    ⟨[(4, .ref 36 1 0), (5, .int .i64 (1 + (pick (Rdr.b (newReader code)) (Rdr.p (newReader code)) 3))), (6, .arr 52 1), (33, .bool (bif (decide (0 < ((List.length rows : Nat) : Int))) then ((pick r0 r1 8) == 0) else false))], [(36, .box 1 [.data (.slice (.int .u8)) (r0 : List Int), .int .i64 (r1 + 1)]), (52, .arr 1 (.slice (.named 1)) (rows : List (List Val)))]⟩
    [((decide (0 < ((List.length rows : Nat) : Int))) = true), ((decide (0 < ((List.length rows : Nat) : Int))) = true), (0 ≤ (Rdr.mk r0 r1).p ∧ (Rdr.mk r0 r1).p ≤ 1099511627776), ((decide (0 < ((List.length rows : Nat) : Int))) = true)] (by kernel_rfl) ?_ ?_
   ·
    refine ⟨?_, ?_, ?_, ?_, trivial⟩
    ·
     assumption
    ·
     assumption
    ·
     dsimp only; omega
    ·
     assumption
   refine AW.cd (bif (decide (0 < ((List.length rows : Nat) : Int))) then ((pick r0 r1 8) == 0) else false) ?_ ?_
   ·
    intro h24
    have h24q : (0 < ((List.length rows : Nat) : Int)) ∧ ((pick r0 r1 8) = 0) := (And.imp (fun h => (of_decide_eq_true h)) (fun h => (Go.Am.beq_pos h)) (Go.Am.and_pos h24))
    have e25 := e23.trans (Go.Am.bif_t h24)
    refine AW.r0 hC [4, 5, 6] [36, 52] ⟨[(4, .ref 36 1 0), (5, .int .i64 (1 + (pick (Rdr.b (newReader code)) (Rdr.p (newReader code)) 3))), (6, .arr 52 1)], [(36, .box 1 [.data (.slice (.int .u8)) ((Rdr.b ((anyRow (Rdr.mk r0 ((r1 + 1) + 1)) (1 + (pick (Rdr.b (newReader code)) (Rdr.p (newReader code)) 3))).2)) : List Int), .int .i64 (Rdr.p ((anyRow (Rdr.mk r0 ((r1 + 1) + 1)) (1 + (pick (Rdr.b (newReader code)) (Rdr.p (newReader code)) 3))).2))]), (52, .arr 1 (.slice (.named 1)) ((List.set rows (Int.toNat (pick r0 (r1 + 1) ((List.length rows : Nat) : Int))) ((anyRow (Rdr.mk r0 ((r1 + 1) + 1)) (1 + (pick (Rdr.b (newReader code)) (Rdr.p (newReader code)) 3))).1)) : List (List Val)))]⟩ [(0 ≤ (Rdr.mk r0 (r1 + 1)).p ∧ (Rdr.mk r0 (r1 + 1)).p ≤ 1099511627776), ((0 ≤ (Rdr.mk r0 ((r1 + 1) + 1)).p ∧ (Rdr.mk r0 ((r1 + 1) + 1)).p ≤ 1000000090000) ∧ 1 ≤ (1 + (pick (Rdr.b (newReader code)) (Rdr.p (newReader code)) 3)) ∧ (1 + (pick (Rdr.b (newReader code)) (Rdr.p (newReader code)) 3)) ≤ 6), (0 ≤ (pick r0 (r1 + 1) ((List.length rows : Nat) : Int)) ∧ (pick r0 (r1 + 1) ((List.length rows : Nat) : Int)) < ((List.length rows : Nat) : Int))] ?_ ?_
    ·
     refine ⟨?_, ?_, ?_, trivial⟩
     ·
      dsimp only; omega
     ·
      dsimp only; omega
     ·
      exact pick_ok _ _ (by omega)
    refine AW.seq (AW.seq (AW.r0 hC [4, 5, 6, 45] [36, 52] ⟨[(4, .ref 36 1 0), (5, .int .i64 (1 + (pick (Rdr.b (newReader code)) (Rdr.p (newReader code)) 3))), (6, .arr 52 1), (45, .bool ((pick (Rdr.b ((anyRow (Rdr.mk r0 ((r1 + 1) + 1)) (1 + (pick (Rdr.b (newReader code)) (Rdr.p (newReader code)) 3))).2)) (Rdr.p ((anyRow (Rdr.mk r0 ((r1 + 1) + 1)) (1 + (pick (Rdr.b (newReader code)) (Rdr.p (newReader code)) 3))).2)) 16) == 0))], [(36, .box 1 [.data (.slice (.int .u8)) ((Rdr.b ((anyRow (Rdr.mk r0 ((r1 + 1) + 1)) (1 + (pick (Rdr.b (newReader code)) (Rdr.p (newReader code)) 3))).2)) : List Int), .int .i64 ((Rdr.p ((anyRow (Rdr.mk r0 ((r1 + 1) + 1)) (1 + (pick (Rdr.b (newReader code)) (Rdr.p (newReader code)) 3))).2)) + 1)]), (52, .arr 1 (.slice (.named 1)) ((List.set rows (Int.toNat (pick r0 (r1 + 1) ((List.length rows : Nat) : Int))) ((anyRow (Rdr.mk r0 ((r1 + 1) + 1)) (1 + (pick (Rdr.b (newReader code)) (Rdr.p (newReader code)) 3))).1)) : List (List Val)))]⟩ [(0 ≤ ((anyRow (Rdr.mk r0 ((r1 + 1) + 1)) (1 + (pick (Rdr.b (newReader code)) (Rdr.p (newReader code)) 3))).2).p ∧ ((anyRow (Rdr.mk r0 ((r1 + 1) + 1)) (1 + (pick (Rdr.b (newReader code)) (Rdr.p (newReader code)) 3))).2).p ≤ 1099511627776)] ?_ ?_))
    ·
     refine ⟨?_, trivial⟩
     ·
      have hq := anyRow_p (Rdr.mk r0 (r1 + 1 + 1)) (width := 1 + pick (newReader code).b (newReader code).p 3) (by omega)
      simp only at hq
      (try dsimp only)
      omega
    refine AW.cd ((pick (Rdr.b ((anyRow (Rdr.mk r0 ((r1 + 1) + 1)) (1 + (pick (Rdr.b (newReader code)) (Rdr.p (newReader code)) 3))).2)) (Rdr.p ((anyRow (Rdr.mk r0 ((r1 + 1) + 1)) (1 + (pick (Rdr.b (newReader code)) (Rdr.p (newReader code)) 3))).2)) 16) == 0) ?_ ?_
    ·
     intro h26
     have h26q : (pick (Rdr.b ((anyRow (Rdr.mk r0 ((r1 + 1) + 1)) (1 + (pick (Rdr.b (newReader code)) (Rdr.p (newReader code)) 3))).2)) (Rdr.p ((anyRow (Rdr.mk r0 ((r1 + 1) + 1)) (1 + (pick (Rdr.b (newReader code)) (Rdr.p (newReader code)) 3))).2)) 16) = 0 := (Go.Am.beq_pos h26)
     have e27 := e25.trans (Go.Am.bif_t h26)
     refine AW.r0 hC [5, 6] [52] ⟨[(5, .int .i64 (one (Rdr.b ((anyRow (Rdr.mk r0 ((r1 + 1) + 1)) (1 + (pick (Rdr.b (newReader code)) (Rdr.p (newReader code)) 3))).2)) ((Rdr.p ((anyRow (Rdr.mk r0 ((r1 + 1) + 1)) (1 + (pick (Rdr.b (newReader code)) (Rdr.p (newReader code)) 3))).2)) + 1) ([0, 7, 2] : List Int))), (6, .arr 52 1)], [(52, .arr 1 (.slice (.named 1)) ((List.set rows (Int.toNat (pick r0 (r1 + 1) ((List.length rows : Nat) : Int))) ((anyRow (Rdr.mk r0 ((r1 + 1) + 1)) (1 + (pick (Rdr.b (newReader code)) (Rdr.p (newReader code)) 3))).1)) : List (List Val)))]⟩ [((0 ≤ (Rdr.mk (Rdr.b ((anyRow (Rdr.mk r0 ((r1 + 1) + 1)) (1 + (pick (Rdr.b (newReader code)) (Rdr.p (newReader code)) 3))).2)) ((Rdr.p ((anyRow (Rdr.mk r0 ((r1 + 1) + 1)) (1 + (pick (Rdr.b (newReader code)) (Rdr.p (newReader code)) 3))).2)) + 1)).p ∧ (Rdr.mk (Rdr.b ((anyRow (Rdr.mk r0 ((r1 + 1) + 1)) (1 + (pick (Rdr.b (newReader code)) (Rdr.p (newReader code)) 3))).2)) ((Rdr.p ((anyRow (Rdr.mk r0 ((r1 + 1) + 1)) (1 + (pick (Rdr.b (newReader code)) (Rdr.p (newReader code)) 3))).2)) + 1)).p ≤ 1099511627775) ∧ 1 ≤ (List.length ([0, 7, 2] : List Int) : Int))] ?_ ?_
     ·
      refine ⟨?_, trivial⟩
      ·
       have hq := anyRow_p (Rdr.mk r0 (r1 + 1 + 1)) (width := 1 + pick (newReader code).b (newReader code).p 3) (by omega)
       simp only at hq
       refine ⟨?_, ?_⟩ <;> (try dsimp only) <;> first | omega | decide
     refine AW.seq (AW.r1 hC [2, 3] [52] ⟨[(2, .int .i64 (one (Rdr.b ((anyRow (Rdr.mk r0 ((r1 + 1) + 1)) (1 + (pick (Rdr.b (newReader code)) (Rdr.p (newReader code)) 3))).2)) ((Rdr.p ((anyRow (Rdr.mk r0 ((r1 + 1) + 1)) (1 + (pick (Rdr.b (newReader code)) (Rdr.p (newReader code)) 3))).2)) + 1) ([0, 7, 2] : List Int))), (3, .arr 52 1)], [(52, .arr 1 (.slice (.named 1)) ((List.set rows (Int.toNat (pick r0 (r1 + 1) ((List.length rows : Nat) : Int))) ((anyRow (Rdr.mk r0 ((r1 + 1) + 1)) (1 + (pick (Rdr.b (newReader code)) (Rdr.p (newReader code)) 3))).1)) : List (List Val)))]⟩ ?_)
     exact AW.ret (AW.retE (β := Int × (List (List Val))) (fun v => [⟨(.int .i64), v.1⟩, ⟨(.slice (.slice (.named 1))), v.2⟩]) (fun v => []) (v := ((one (Rdr.b ((anyRow (Rdr.mk r0 ((r1 + 1) + 1)) (1 + (pick (Rdr.b (newReader code)) (Rdr.p (newReader code)) 3))).2)) ((Rdr.p ((anyRow (Rdr.mk r0 ((r1 + 1) + 1)) (1 + (pick (Rdr.b (newReader code)) (Rdr.p (newReader code)) 3))).2)) + 1) ([0, 7, 2] : List Int)), (List.set rows (Int.toNat (pick r0 (r1 + 1) ((List.length rows : Nat) : Int))) ((anyRow (Rdr.mk r0 ((r1 + 1) + 1)) (1 + (pick (Rdr.b (newReader code)) (Rdr.p (newReader code)) 3))).1)))) e27 (by kernel_rfl) rfl rfl)
    ·
     intro h28
     have h28q : (pick (Rdr.b ((anyRow (Rdr.mk r0 ((r1 + 1) + 1)) (1 + (pick (Rdr.b (newReader code)) (Rdr.p (newReader code)) 3))).2)) (Rdr.p ((anyRow (Rdr.mk r0 ((r1 + 1) + 1)) (1 + (pick (Rdr.b (newReader code)) (Rdr.p (newReader code)) 3))).2)) 16) ≠ 0 := (Go.Am.beq_neg h28)
     have e29 := e25.trans (Go.Am.bif_f h28)
     refine AW.kp [5, 6] [52] ⟨[(5, .int .i64 (1 + (pick (Rdr.b (newReader code)) (Rdr.p (newReader code)) 3))), (6, .arr 52 1)], [(52, .arr 1 (.slice (.named 1)) ((List.set rows (Int.toNat (pick r0 (r1 + 1) ((List.length rows : Nat) : Int))) ((anyRow (Rdr.mk r0 ((r1 + 1) + 1)) (1 + (pick (Rdr.b (newReader code)) (Rdr.p (newReader code)) 3))).1)) : List (List Val)))]⟩ ?_
     refine AW.skip (AW.seq (AW.r1 hC [2, 3] [52] ⟨[(2, .int .i64 (1 + (pick (Rdr.b (newReader code)) (Rdr.p (newReader code)) 3))), (3, .arr 52 1)], [(52, .arr 1 (.slice (.named 1)) ((List.set rows (Int.toNat (pick r0 (r1 + 1) ((List.length rows : Nat) : Int))) ((anyRow (Rdr.mk r0 ((r1 + 1) + 1)) (1 + (pick (Rdr.b (newReader code)) (Rdr.p (newReader code)) 3))).1)) : List (List Val)))]⟩ ?_))
     exact AW.ret (AW.retE (β := Int × (List (List Val))) (fun v => [⟨(.int .i64), v.1⟩, ⟨(.slice (.slice (.named 1))), v.2⟩]) (fun v => []) (v := ((1 + (pick (Rdr.b (newReader code)) (Rdr.p (newReader code)) 3)), (List.set rows (Int.toNat (pick r0 (r1 + 1) ((List.length rows : Nat) : Int))) ((anyRow (Rdr.mk r0 ((r1 + 1) + 1)) (1 + (pick (Rdr.b (newReader code)) (Rdr.p (newReader code)) 3))).1)))) e29 (by kernel_rfl) rfl rfl)
   ·
    intro h30
    have h30q : (¬ (0 < ((List.length rows : Nat) : Int))) ∨ ((pick r0 r1 8) ≠ 0) := (Or.imp (fun h => (of_decide_eq_false h)) (fun h => (Go.Am.beq_neg h)) (Go.Am.and_neg h30))
    have e31 := e23.trans (Go.Am.bif_f h30)
    refine AW.kp [4, 5, 6] [36, 52] ⟨[(4, .ref 36 1 0), (5, .int .i64 (1 + (pick (Rdr.b (newReader code)) (Rdr.p (newReader code)) 3))), (6, .arr 52 1)], [(36, .box 1 [.data (.slice (.int .u8)) (r0 : List Int), .int .i64 (r1 + 1)]), (52, .arr 1 (.slice (.named 1)) (rows : List (List Val)))]⟩ ?_
    refine AW.skip (AW.seq (AW.seq (AW.r0 hC [4, 5, 6, 45] [36, 52] ⟨[(4, .ref 36 1 0), (5, .int .i64 (1 + (pick (Rdr.b (newReader code)) (Rdr.p (newReader code)) 3))), (6, .arr 52 1), (45, .bool ((pick r0 (r1 + 1) 16) == 0))], [(36, .box 1 [.data (.slice (.int .u8)) (r0 : List Int), .int .i64 ((r1 + 1) + 1)]), (52, .arr 1 (.slice (.named 1)) (rows : List (List Val)))]⟩ [(0 ≤ (Rdr.mk r0 (r1 + 1)).p ∧ (Rdr.mk r0 (r1 + 1)).p ≤ 1099511627776)] ?_ ?_)))
    ·
     refine ⟨?_, trivial⟩
     ·
      dsimp only; omega
    refine AW.cd ((pick r0 (r1 + 1) 16) == 0) ?_ ?_
    ·
     intro h32
     have h32q : (pick r0 (r1 + 1) 16) = 0 := (Go.Am.beq_pos h32)
     have e33 := e31.trans (Go.Am.bif_t h32)
     refine AW.r0 hC [5, 6] [52] ⟨[(5, .int .i64 (one r0 ((r1 + 1) + 1) ([0, 7, 2] : List Int))), (6, .arr 52 1)], [(52, .arr 1 (.slice (.named 1)) (rows : List (List Val)))]⟩ [((0 ≤ (Rdr.mk r0 ((r1 + 1) + 1)).p ∧ (Rdr.mk r0 ((r1 + 1) + 1)).p ≤ 1099511627775) ∧ 1 ≤ (List.length ([0, 7, 2] : List Int) : Int))] ?_ ?_
     ·
      refine ⟨?_, trivial⟩
      ·
       simp only [lens] at *; omega
     refine AW.seq (AW.r1 hC [2, 3] [52] ⟨[(2, .int .i64 (one r0 ((r1 + 1) + 1) ([0, 7, 2] : List Int))), (3, .arr 52 1)], [(52, .arr 1 (.slice (.named 1)) (rows : List (List Val)))]⟩ ?_)
     exact AW.ret (AW.retE (β := Int × (List (List Val))) (fun v => [⟨(.int .i64), v.1⟩, ⟨(.slice (.slice (.named 1))), v.2⟩]) (fun v => []) (v := ((one r0 ((r1 + 1) + 1) ([0, 7, 2] : List Int)), rows)) e33 (by kernel_rfl) rfl rfl)
    ·
     intro h34
     have h34q : (pick r0 (r1 + 1) 16) ≠ 0 := (Go.Am.beq_neg h34)
     have e35 := e31.trans (Go.Am.bif_f h34)
     refine AW.kp [5, 6] [52] ⟨[(5, .int .i64 (1 + (pick (Rdr.b (newReader code)) (Rdr.p (newReader code)) 3))), (6, .arr 52 1)], [(52, .arr 1 (.slice (.named 1)) (rows : List (List Val)))]⟩ ?_
     refine AW.skip (AW.seq (AW.r1 hC [2, 3] [52] ⟨[(2, .int .i64 (1 + (pick (Rdr.b (newReader code)) (Rdr.p (newReader code)) 3))), (3, .arr 52 1)], [(52, .arr 1 (.slice (.named 1)) (rows : List (List Val)))]⟩ ?_))
     exact AW.ret (AW.retE (β := Int × (List (List Val))) (fun v => [⟨(.int .i64), v.1⟩, ⟨(.slice (.slice (.named 1))), v.2⟩]) (fun v => []) (v := ((1 + (pick (Rdr.b (newReader code)) (Rdr.p (newReader code)) 3)), rows)) e35 (by kernel_rfl) rfl rfl)
  ·
   intro h36
   have h36q : ¬ (0 < ((List.length rows : Nat) : Int)) := (of_decide_eq_false h36)
   have e37 := e21.trans (Go.Am.bif_f h36)
   refine AW.reg hC  false [(29, false)] [4, 5, 6, 33] [36, 52]
    ⟨[(4, .ref 36 1 0), (5, .int .i64 (1 + (pick (Rdr.b (newReader code)) (Rdr.p (newReader code)) 3))), (6, .arr 52 1), (33, .bool false)], [(36, .box 1 [.data (.slice (.int .u8)) (r0 : List Int), .int .i64 r1]), (52, .arr 1 (.slice (.named 1)) (rows : List (List Val)))]⟩
    [((decide (0 < ((List.length rows : Nat) : Int))) = false), ((decide (0 < ((List.length rows : Nat) : Int))) = false), ((decide (0 < ((List.length rows : Nat) : Int))) = false), ((decide (0 < ((List.length rows : Nat) : Int))) = false)] (by kernel_rfl) ?_ ?_
   ·
    refine ⟨?_, ?_, ?_, ?_, trivial⟩
    ·
     assumption
    ·
     assumption
    ·
     assumption
    ·
     assumption
   refine AW.cond (b := false) (by kernel_rfl) (fun h => by cases h) (fun _ => ?_)
   refine AW.kp [4, 5, 6] [36, 52] ⟨[(4, .ref 36 1 0), (5, .int .i64 (1 + (pick (Rdr.b (newReader code)) (Rdr.p (newReader code)) 3))), (6, .arr 52 1)], [(36, .box 1 [.data (.slice (.int .u8)) (r0 : List Int), .int .i64 r1]), (52, .arr 1 (.slice (.named 1)) (rows : List (List Val)))]⟩ ?_
   refine AW.skip (AW.seq (AW.seq (AW.r0 hC [4, 5, 6, 45] [36, 52] ⟨[(4, .ref 36 1 0), (5, .int .i64 (1 + (pick (Rdr.b (newReader code)) (Rdr.p (newReader code)) 3))), (6, .arr 52 1), (45, .bool ((pick r0 r1 16) == 0))], [(36, .box 1 [.data (.slice (.int .u8)) (r0 : List Int), .int .i64 (r1 + 1)]), (52, .arr 1 (.slice (.named 1)) (rows : List (List Val)))]⟩ [(0 ≤ (Rdr.mk r0 r1).p ∧ (Rdr.mk r0 r1).p ≤ 1099511627776)] ?_ ?_)))
   ·
    refine ⟨?_, trivial⟩
    ·
     dsimp only; omega
   refine AW.cd ((pick r0 r1 16) == 0) ?_ ?_
   ·
    intro h38
    have h38q : (pick r0 r1 16) = 0 := (Go.Am.beq_pos h38)
    have e39 := e37.trans (Go.Am.bif_t h38)
    refine AW.r0 hC [5, 6] [52] ⟨[(5, .int .i64 (one r0 (r1 + 1) ([0, 7, 2] : List Int))), (6, .arr 52 1)], [(52, .arr 1 (.slice (.named 1)) (rows : List (List Val)))]⟩ [((0 ≤ (Rdr.mk r0 (r1 + 1)).p ∧ (Rdr.mk r0 (r1 + 1)).p ≤ 1099511627775) ∧ 1 ≤ (List.length ([0, 7, 2] : List Int) : Int))] ?_ ?_
    ·
     refine ⟨?_, trivial⟩
     ·
      simp only [lens] at *; omega
    refine AW.seq (AW.r1 hC [2, 3] [52] ⟨[(2, .int .i64 (one r0 (r1 + 1) ([0, 7, 2] : List Int))), (3, .arr 52 1)], [(52, .arr 1 (.slice (.named 1)) (rows : List (List Val)))]⟩ ?_)
    exact AW.ret (AW.retE (β := Int × (List (List Val))) (fun v => [⟨(.int .i64), v.1⟩, ⟨(.slice (.slice (.named 1))), v.2⟩]) (fun v => []) (v := ((one r0 (r1 + 1) ([0, 7, 2] : List Int)), rows)) e39 (by kernel_rfl) rfl rfl)
   ·
    intro h40
    have h40q : (pick r0 r1 16) ≠ 0 := (Go.Am.beq_neg h40)
    have e41 := e37.trans (Go.Am.bif_f h40)
    refine AW.kp [5, 6] [52] ⟨[(5, .int .i64 (1 + (pick (Rdr.b (newReader code)) (Rdr.p (newReader code)) 3))), (6, .arr 52 1)], [(52, .arr 1 (.slice (.named 1)) (rows : List (List Val)))]⟩ ?_
    refine AW.skip (AW.seq (AW.r1 hC [2, 3] [52] ⟨[(2, .int .i64 (1 + (pick (Rdr.b (newReader code)) (Rdr.p (newReader code)) 3))), (3, .arr 52 1)], [(52, .arr 1 (.slice (.named 1)) (rows : List (List Val)))]⟩ ?_))
    exact AW.ret (AW.retE (β := Int × (List (List Val))) (fun v => [⟨(.int .i64), v.1⟩, ⟨(.slice (.slice (.named 1))), v.2⟩]) (fun v => []) (v := ((1 + (pick (Rdr.b (newReader code)) (Rdr.p (newReader code)) 3)), rows)) e41 (by kernel_rfl) rfl rfl)

end
end Go.Proofs.Ytjcjpeckfikfkaa
